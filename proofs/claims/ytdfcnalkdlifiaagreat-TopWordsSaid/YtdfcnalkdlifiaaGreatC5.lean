/- Several texts of our own in one: J1, K3, F8, Q36, E25, N1, E18, E26, Q37, E27, F1, N2, S1. -/
import Derived.Lib.BytesEntry
import Derived.Lib.AppendZeros
import Derived.Lib.MakeNoZero
import Derived.Laws.Externs
import Derived.Shelf.SlSortCmp.Kit1
import Derived.Ground.SlsfProg
import Derived.Shelf.SlSortCmp.WholeK
import Derived.Test.YtdfcnalkdlifiaaGreatProg
import Derived.Test.YtdfcnalkdlifiaaGreatC4
/-! ## J1 -/
namespace Go.Proofs.YtdfcnalkdlifiaaGreat
open Go Go.Eng Go.Pure
open Tryz
set_option linter.unusedVariables false
set_option maxRecDepth 100000 in
theorem piece_ct {w : World} {A_s : Option Addr} {n_s c_s : Nat} {s : List Int} {A_x : Option Addr} {n_x c_x : Nat} {x : List Int} {i : Int} (h_s : Rd w A_s n_s c_s 1 (ints .i64 s)) (h_x : Rd w A_x n_x c_x 1 (ints .i64 x)) (hi : 0 ≤ i ∧ i < s.length) (hx : x.length = s.length) (hlo : i < rd x i) (hhi : rd x i ≤ s.length) (hN : s.length ≤ 1000000) :
  Ct Tryz.prog 167 #[.slice A_s n_s c_s, .slice A_x n_x c_x, .int .i64 i] w.heap.size w [] (fun v R' => v = .slice (cutA A_s i.toNat c_s 1) ((min (rd x i + 1) ((s.length : Nat) : Int)).toNat - i.toNat) (c_s - i.toNat)) := by
 obtain rfl := h_s.lenI
 obtain rfl := h_x.lenI
 refine fn1 Tryz.func167 rfl rfl rfl ?_
 have m_s := h_s.max
 have m_x := h_x.max
 refine wq <| wg rfl rfl <| wr_nil <| wq <| wm rfl rfl <| wm rfl rfl <| wm rfl rfl <| wm rfl rfl <| wr_y rfl (y_index1 underlying24 sz3 rfl rfl (h_x.c _) (by omega) (by omega)) <| wr_y rfl (y_ldI underlying3 rfl rfl (h_x.c _) (by omega) (by omega)) <| wA rfl rfl rfl (by omega) <| wm rfl rfl <| wr_y rfl (y_len underlying24 rfl) ?_
 refine wr_y rfl (y_min rfl rfl) <| wr_y rfl (y_slice underlying24 sz3 rfl rfl rfl (h_s.c _) (by omega) (by omega) (by omega)) <| wg rfl rfl <| wr_nil <| w_ret ?_
 refine ⟨_, rfl, ?_⟩
 rfl

set_option maxRecDepth 100000 in
set_option maxHeartbeats 1000000 in
theorem named_ct {w : World} {A_s : Option Addr} {n_s c_s : Nat} {s : List Int} {A_f : Option Addr} {n_f c_f : Nat} {f : List Int} {A_o : Option Addr} {n_o c_o : Nat} {o : List Int} (h_s : Rd w A_s n_s c_s 1 (ints .i64 s)) (h_f : Rd w A_f n_f c_f 1 (ints .i64 f)) (h_o : Rd w A_o n_o c_o 1 (ints .i64 o)) (hs : Nn s) (hf : f = fstL s) (hop : o.Perm (iota s.length)) (hoo : o.Pairwise (pcS s)) (hN : s.length ≤ 1000000) :
  Ct Tryz.prog 150 #[.slice A_s n_s c_s, .slice A_f n_f c_f, .slice A_o n_o c_o] w.heap.size w [] (fun v R' => ∃ (nx nm : List Int) (n la : Int) (A : Option Addr) (c : Nat), v = .tuple #[.slice A f.length c, .int .i64 (n + 1)] ∧ NxOk s nx (fstL s).length ∧ NamI s o nx s.length nm n la ∧ R' = [⟨3, 1, A, f.length, c, ints .i64 (f.map (rd nm)), false⟩]) := by
 obtain rfl := h_s.lenI
 obtain rfl := h_f.lenI
 obtain rfl := h_o.lenI
 refine fn2 Tryz.func150 rfl rfl rfl ?_
 have m_s := h_s.max
 have m_f := h_f.max
 have m_o := h_o.max
 have hol : o.length = s.length := by rw [hop.length_eq, iota_len]
 have hfl : f.length ≤ s.length := by rw [hf]; exact fstL_len
 refine wq <| wg rfl rfl <| wg rfl rfl <| wr_nil <| wq <| wm rfl rfl <| wr_y rfl (y_len underlying24 rfl) <| wr_a rfl (a_makeN underlying24 zb3 rfl rfl (by omega) (by omega) (by omega)) ?_
 rintro _ _ ⟨g_1, rfl, rfl⟩
 refine wr_rows (R1 := [⟨3, 1, (some ⟨g_1, 0, none⟩), s.length, s.length, ints .i64 (List.replicate s.length (0 : Int)), false⟩]) rfl <| wr_as (v := .slice (some ⟨g_1, 0, none⟩) s.length s.length) rfl <| wg rfl rfl <| wr_nil <| w_seq <| wq <| wm rfl rfl <| wr_y rfl (y_len underlying24 rfl) <| wm rfl rfl <| wr_nil <| w_block ?_
 refine w_loop2 (fun (i : Int) (V : List Int) => [(0, .slice A_s s.length c_s), (1, .slice A_f f.length c_f), (2, .slice A_o o.length c_o), (8, .slice (some ⟨g_1, 0, none⟩) s.length s.length), (22, .slice A_f f.length c_f), (23, .int .i64 ((f.length : Nat) : Int)), (24, .int .i64 i)]) (fun (i : Int) (V : List Int) => [⟨3, 1, (some ⟨g_1, 0, none⟩), s.length, s.length, ints .i64 V, false⟩]) (fun (i : Int) (V : List Int) => (0 ≤ i) ∧ (i ≤ f.length) ∧ (NxOk s V i)) (fun (i : Int) (V : List Int) => (f.length - i).toNat) ?_ ?_
 ·
  exact ⟨0, List.replicate s.length (0 : Int), ⟨(by omega), (by omega), (nx_zero)⟩, (sc rfl (sc rfl (sc rfl (sc rfl (sc rfl (sc rfl (sc rfl Sub.nil))))))), fun _ h => h⟩
 intro i V ⟨hi0, hi1, hV⟩
 have hVl := hV.len
 have hfi : i < f.length → 0 ≤ rd f i ∧ rd f i < s.length := fun h => by subst hf; exact (fstL_at hi0 h).1
 refine wq <| wL rfl rfl rfl <| wr_nil <| w_seq <| w_if rfl (fun hc1 => ?_) (fun hc1 => ?_)
 ·
  have hfi2 := hfi (by omega)
  refine w_skip <| w_seq <| w_block <| wq <| wm rfl rfl <| wr_y rfl (y_index1 underlying24 sz3 rfl rfl (h_f.c _) (by omega) (by omega)) <| wr_y rfl (y_ldI underlying3 rfl rfl (h_f.c _) (by omega) (by omega)) <| wg rfl rfl <| wg rfl rfl <| wr_nil <| wq <| wm rfl rfl <| wm rfl rfl ?_
  refine wm rfl rfl <| wr_y rfl (y_len underlying24 rfl) <| wr_y rfl (y_index1 underlying24 sz3 rfl rfl (rdr 0 rfl) (by omega) (by omega)) <| wr_n (a_storeI 0 rfl sz3 rfl rfl (by omega) (by omega)) ?_
  rintro _ _ rfl
  refine wr_rows (R1 := [⟨3, 1, (some ⟨g_1, 0, none⟩), s.length, s.length, ints .i64 (upd V (rd f i) ((s.length : Nat) : Int)), false⟩]) rfl <| wr_nil <| wq <| wm rfl rfl <| wA rfl rfl rfl (by omega) <| wm rfl rfl <| wr_y rfl (y_len underlying24 rfl) <| wL rfl rfl rfl <| wr_nil <| w_if rfl (fun hc2 => ?_) (fun hc2 => ?_)
  ·
   refine w_reg <| wm rfl rfl <| wm rfl rfl <| wm rfl rfl <| wm rfl rfl <| wA rfl rfl rfl (by omega) <| wr_y rfl (y_index1 underlying24 sz3 rfl rfl (h_f.c _) (by omega) (by omega)) <| wr_y rfl (y_ldI underlying3 rfl rfl (h_f.c _) (by omega) (by omega)) <| wr_y rfl (y_index1 underlying24 sz3 rfl rfl (rdr 0 rfl) (by omega) (by omega)) <| wr_n (a_storeI 0 rfl sz3 rfl rfl (by omega) (by omega)) ?_
   rintro _ _ rfl
   refine wr_rows (R1 := [⟨3, 1, (some ⟨g_1, 0, none⟩), s.length, s.length, ints .i64 (upd (upd V (rd f i) ((s.length : Nat) : Int)) (rd f i) (rd f (i + 1))), false⟩]) rfl <| wr_nil <| w_reg <| wA rfl rfl rfl (by omega) <| wm rfl rfl <| wr_nil ?_
   exact ⟨i + 1, upd (upd V (rd f i) ((s.length : Nat) : Int)) (rd f i) (rd f (i + 1)), ⟨(by omega), (by omega), (by subst hf; exact hV.step2 hi0 (by omega) (by omega))⟩, (by omega), (sc rfl (sc rfl (sc rfl (sc rfl (sc rfl (sc rfl (sc rfl Sub.nil))))))), fun _ h => h⟩
  ·
   refine w_skip <| w_reg <| wA rfl rfl rfl (by omega) <| wm rfl rfl <| wr_nil ?_
   exact ⟨i + 1, upd V (rd f i) ((s.length : Nat) : Int), ⟨(by omega), (by omega), (by subst hf; exact hV.step1 hi0 (by omega) (by omega))⟩, (by omega), (sc rfl (sc rfl (sc rfl (sc rfl (sc rfl (sc rfl (sc rfl Sub.nil))))))), fun _ h => h⟩
 ·
  have hV2 : NxOk s V (fstL s).length := by have e : i = (fstL s).length := (by rw [← hf]; omega); rw [← e]; exact hV
  refine w_exit <| wq <| wm rfl rfl <| wr_y rfl (y_len underlying24 rfl) <| wr_a rfl (a_makeN underlying24 zb3 rfl rfl (by omega) (by omega) (by omega)) ?_
  rintro _ _ ⟨g_2, rfl, rfl⟩
  refine wr_rows (R1 := [⟨3, 1, (some ⟨g_2, 0, none⟩), s.length, s.length, ints .i64 (List.replicate s.length (0 : Int)), false⟩, ⟨3, 1, (some ⟨g_1, 0, none⟩), s.length, s.length, ints .i64 V, false⟩]) rfl <| wr_as (v := .slice (some ⟨g_2, 0, none⟩) s.length s.length) rfl <| wg rfl rfl <| wr_nil <| wq <| wg rfl rfl <| wg rfl rfl <| wr_nil <| w_seq <| wq <| wm rfl rfl <| wr_y rfl (y_len underlying24 rfl) <| wm rfl rfl ?_
  refine wr_nil <| w_block ?_
  refine w_loop4 (fun (q : Int) (U : List Int) (n : Int) (la : Int) => [(0, .slice A_s s.length c_s), (1, .slice A_f f.length c_f), (8, .slice (some ⟨g_1, 0, none⟩) s.length s.length), (11, .slice (some ⟨g_2, 0, none⟩) s.length s.length), (12, .int .i64 n), (13, .int .i64 la), (51, .slice A_o o.length c_o), (52, .int .i64 ((o.length : Nat) : Int)), (53, .int .i64 q)]) (fun (q : Int) (U : List Int) (n : Int) (la : Int) => [⟨3, 1, (some ⟨g_2, 0, none⟩), s.length, s.length, ints .i64 U, false⟩, ⟨3, 1, (some ⟨g_1, 0, none⟩), s.length, s.length, ints .i64 V, false⟩]) (fun (q : Int) (U : List Int) (n : Int) (la : Int) => (0 ≤ q) ∧ (q ≤ o.length) ∧ (NamI s o V q U n la)) (fun (q : Int) (U : List Int) (n : Int) (la : Int) => (o.length - q).toNat) ?_ ?_
  ·
   exact ⟨0, List.replicate s.length (0 : Int), 0, -1, ⟨(by omega), (by omega), (nam_zero)⟩, (sc rfl (sc rfl (sc rfl (sc rfl (sc rfl (sc rfl (sc rfl (sc rfl (sc rfl Sub.nil))))))))), fun _ h => h⟩
  intro q U n la ⟨hq0, hq1, hM⟩
  have hUl := hM.len
  have hMb := hM.bd
  have hla := hM.last_in hop (by omega)
  have hlx : 0 ≤ la → la < s.length ∧ la < rd V la ∧ rd V la ≤ s.length := fun h => by
   rcases hla with e | ⟨e, e2⟩
   ·omega
   ·have g := hV2.nx e.1 e.2 e2
    exact ⟨e.2, g.gt, g.le⟩
  have hoq : q < o.length → 0 ≤ rd o q ∧ rd o q < s.length := fun h => mem_iota.1 (hop.subset (rd_mem (L := o) hq0 h))
  have hoz : q < o.length → (rd V (rd o q) = 0 ↔ fstB s (rd o q) = false) := fun h => hV2.zero (hoq h).1 (hoq h).2
  refine wq <| wL rfl rfl rfl <| wr_nil <| w_seq <| w_if rfl (fun hc3 => ?_) (fun hc3 => ?_)
  ·
   have hoq2 := hoq (by omega)
   have hoz2 := hoz (by omega)
   refine w_skip <| w_seq <| w_block <| wq <| wr_y rfl (y_index1 underlying24 sz3 rfl rfl (h_o.c _) (by omega) (by omega)) <| wr_y rfl (y_ldI underlying3 rfl rfl (h_o.c _) (by omega) (by omega)) <| wg rfl rfl <| wr_nil <| w_seq <| wq <| wm rfl rfl <| wm rfl rfl <| wr_y rfl (y_index1 underlying24 sz3 rfl rfl (rdr 1 rfl) (by omega) (by omega)) ?_
   refine wr_y rfl (y_ldI underlying3 rfl rfl (rdr 1 rfl) (by omega) (by omega)) <| wr_y rfl (y_eq rfl rfl) <| wr_nil <| w_if rfl (fun hc4 => ?_) (fun hc4 => ?_)
   ·
    have hfq := hoz2.1 hc4
    refine w_exit <| w_reg <| wA rfl rfl rfl (by omega) <| wm rfl rfl <| wr_nil ?_
    exact ⟨q + 1, U, n, la, ⟨(by omega), (by omega), (hM.skip hfq)⟩, (by omega), (sc rfl (sc rfl (sc rfl (sc rfl (sc rfl (sc rfl (sc rfl (sc rfl (sc rfl Sub.nil))))))))), fun _ h => h⟩
   ·
    have hfq : fstB s (rd o q) = true := by
     cases e : fstB s (rd o q) with
     | true => rfl
     | false => exact absurd (hoz2.2 e) hc4
    have hgx := hV2.nx hoq2.1 hoq2.2 hfq
    have hg1 := hgx.gt
    have hg2 := hgx.le
    have hlm : -1 ≤ la := by omega
    refine w_skip <| w_seq <| wq <| wm rfl rfl <| wr_y rfl (y_ge rfl rfl) <| wm rfl rfl <| wr_mid 29 [(0, .slice A_s s.length c_s), (1, .slice A_f f.length c_f), (8, .slice (some ⟨g_1, 0, none⟩) s.length s.length), (11, .slice (some ⟨g_2, 0, none⟩) s.length s.length), (12, .int .i64 n), (15, .int .i64 (rd o q)), (51, .slice A_o o.length c_o), (52, .int .i64 ((o.length : Nat) : Int)), (53, .int .i64 q), (93, .bool (decide ((0 ≤ la) ∧ ((((rd V (rd o q)) = ((s.length : Nat) : Int)) ∨ ((rd V la) = ((s.length : Nat) : Int))) ∨ (¬ ((((s).drop (la).toNat).take ((min (rd V la + 1) ((s.length : Nat) : Int)).toNat - la.toNat)) = (((s).drop (rd o q).toNat).take ((min (rd V (rd o q) + 1) ((s.length : Nat) : Int)).toNat - (rd o q).toNat))))))))] [⟨3, 1, (some ⟨g_2, 0, none⟩), s.length, s.length, ints .i64 U, false⟩, ⟨3, 1, (some ⟨g_1, 0, none⟩), s.length, s.length, ints .i64 V, false⟩] ?_ ?_
    ·
     refine wr_case 64 rfl (fun hc5 => ?_) (fun hc5 => ?_)
     ·
      refine wr_yes rfl rfl <| wm rfl rfl <| wr_yes rfl rfl <| wm rfl rfl <| wr_yes rfl rfl <| wr_y rfl (y_index1 underlying24 sz3 rfl rfl (rdr 1 rfl) (by omega) (by omega)) <| wr_yes rfl rfl <| wr_y rfl (y_ldI underlying3 rfl rfl (rdr 1 rfl) (by omega) (by omega)) <| wr_yes rfl rfl <| wm rfl rfl <| wr_yes rfl rfl <| wr_y rfl (y_len underlying24 rfl) <| wr_yes rfl rfl <| wr_y rfl (y_eq rfl rfl) <| wr_yes rfl rfl ?_
      refine wm rfl rfl <| wr_mid 8 [(0, .slice A_s s.length c_s), (1, .slice A_f f.length c_f), (8, .slice (some ⟨g_1, 0, none⟩) s.length s.length), (11, .slice (some ⟨g_2, 0, none⟩) s.length s.length), (12, .int .i64 n), (13, .int .i64 la), (15, .int .i64 (rd o q)), (51, .slice A_o o.length c_o), (52, .int .i64 ((o.length : Nat) : Int)), (53, .int .i64 q), (64, .bool true), (80, .bool (decide (((rd V (rd o q)) = ((s.length : Nat) : Int)) ∨ ((rd V la) = ((s.length : Nat) : Int)))))] [⟨3, 1, (some ⟨g_2, 0, none⟩), s.length, s.length, ints .i64 U, false⟩, ⟨3, 1, (some ⟨g_1, 0, none⟩), s.length, s.length, ints .i64 V, false⟩] ?_ ?_
      ·
       refine wr_case 72 rfl (fun hc6 => ?_) (fun hc6 => ?_)
       ·
        refine wr_no rfl rfl rfl rfl <| wr_no rfl rfl rfl rfl <| wr_no rfl rfl rfl rfl <| wr_no rfl rfl rfl rfl <| wr_no rfl rfl rfl rfl <| wr_no rfl rfl rfl rfl <| wr_no rfl rfl rfl rfl <| wr_yes rfl rfl <| wr_y rfl (y_pickT rfl rfl) <| wr_nil ?_
        exact ⟨(sc rfl (sc rfl (sc rfl (sc rfl (sc rfl (sc rfl (sc rfl (sc rfl (sc rfl (sc rfl (sc rfl (Sub.to rfl (mb_t (by first | omega | exact ⟨fun h => ⟨(by assumption), h⟩, fun h => h.2⟩ | exact .inl (by assumption) | exact ⟨.inr, fun h => h.resolve_left (by assumption)⟩ | exact ⟨fun h => h.resolve_left (by assumption), .inr⟩ | simp [*])) Sub.nil)))))))))))), fun _ h => h⟩
       ·
        refine wr_yes rfl rfl <| wm rfl rfl <| wr_yes rfl rfl <| wm rfl rfl <| wr_yes rfl rfl <| wr_y rfl (y_index1 underlying24 sz3 rfl rfl (rdr 1 rfl) (by omega) (by omega)) <| wr_yes rfl rfl <| wr_y rfl (y_ldI underlying3 rfl rfl (rdr 1 rfl) (by omega) (by omega)) <| wr_yes rfl rfl <| wm rfl rfl <| wr_yes rfl rfl <| wr_y rfl (y_len underlying24 rfl) <| wr_yes rfl rfl <| wr_y rfl (y_eq rfl rfl) <| wr_yes rfl rfl ?_
        refine wr_y rfl (y_pickF rfl rfl) <| wr_nil ?_
        exact ⟨(sc rfl (sc rfl (sc rfl (sc rfl (sc rfl (sc rfl (sc rfl (sc rfl (sc rfl (sc rfl (sc rfl (Sub.to rfl (mb (by first | omega | exact ⟨fun h => ⟨(by assumption), h⟩, fun h => h.2⟩ | exact .inl (by assumption) | exact ⟨.inr, fun h => h.resolve_left (by assumption)⟩ | exact ⟨fun h => h.resolve_left (by assumption), .inr⟩ | simp [*])) Sub.nil)))))))))))), fun _ h => h⟩
      refine wr_yes rfl rfl <| wm rfl rfl <| wr_mid 11 [(0, .slice A_s s.length c_s), (1, .slice A_f f.length c_f), (8, .slice (some ⟨g_1, 0, none⟩) s.length s.length), (11, .slice (some ⟨g_2, 0, none⟩) s.length s.length), (12, .int .i64 n), (15, .int .i64 (rd o q)), (51, .slice A_o o.length c_o), (52, .int .i64 ((o.length : Nat) : Int)), (53, .int .i64 q), (64, .bool true), (92, .bool (decide ((((rd V (rd o q)) = ((s.length : Nat) : Int)) ∨ ((rd V la) = ((s.length : Nat) : Int))) ∨ (¬ ((((s).drop (la).toNat).take ((min (rd V la + 1) ((s.length : Nat) : Int)).toNat - la.toNat)) = (((s).drop (rd o q).toNat).take ((min (rd V (rd o q) + 1) ((s.length : Nat) : Int)).toNat - (rd o q).toNat)))))))] [⟨3, 1, (some ⟨g_2, 0, none⟩), s.length, s.length, ints .i64 U, false⟩, ⟨3, 1, (some ⟨g_1, 0, none⟩), s.length, s.length, ints .i64 V, false⟩] ?_ ?_
      ·
       refine wr_case 81 rfl (fun hc7 => ?_) (fun hc7 => ?_)
       ·
        refine wr_no rfl rfl rfl rfl <| wr_no rfl rfl rfl rfl <| wr_no rfl rfl rfl rfl <| wr_no rfl rfl rfl rfl <| wr_no rfl rfl rfl rfl <| wr_no rfl rfl rfl rfl <| wr_no rfl rfl rfl rfl <| wr_no rfl rfl rfl rfl <| wr_no rfl rfl rfl rfl <| wr_no rfl rfl rfl rfl <| wr_yes rfl rfl <| wr_y rfl (y_pickT rfl rfl) <| wr_nil ?_
        exact ⟨(sc rfl (sc rfl (sc rfl (sc rfl (sc rfl (sc rfl (sc rfl (sc rfl (sc rfl (sc rfl (Sub.to rfl (mb_t (by first | omega | exact ⟨fun h => ⟨(by assumption), h⟩, fun h => h.2⟩ | exact .inl (by assumption) | exact ⟨.inr, fun h => h.resolve_left (by assumption)⟩ | exact ⟨fun h => h.resolve_left (by assumption), .inr⟩ | simp [*])) Sub.nil))))))))))), fun _ h => h⟩
       ·
        refine wr_yes rfl rfl <| wm rfl rfl <| wr_yes rfl rfl <| wm rfl rfl <| wr_yes rfl rfl <| wm rfl rfl <| wr_yes rfl rfl <| wr_a rfl (a_callF en167 rfl (Ct.quiet (fun w hw => piece_ct ((h_s.c _) w hw) ((rdr 1 rfl) w hw) (by first | assumption | omega | decide) (by first | assumption | omega | decide) (by first | assumption | omega | decide) (by first | assumption | omega | decide) (by first | assumption | omega | decide)))) ?_
        rintro _ _ ⟨rfl, rfl⟩
        refine wr_yes rfl rfl <| wm rfl rfl <| wr_yes rfl rfl <| wm rfl rfl <| wr_yes rfl rfl <| wm rfl rfl <| wr_yes rfl rfl <| wr_a rfl (a_callF en167 rfl (Ct.quiet (fun w hw => piece_ct ((h_s.c _) w hw) ((rdr 1 rfl) w hw) (by first | assumption | omega | decide) (by first | assumption | omega | decide) (by first | assumption | omega | decide) (by first | assumption | omega | decide) (by first | assumption | omega | decide)))) ?_
        rintro _ _ ⟨rfl, rfl⟩
        refine wr_yes rfl rfl <| wr_a rfl (a_callF en51 rfl (Ct.quiet (fun w hw => equalI_ct ((RdC.cutI (h_s.c _) (by omega) (by omega)) w hw) ((RdC.cutI (h_s.c _) (by omega) (by omega)) w hw) (by rw [List.length_take, List.length_drop]; omega)))) ?_
        rintro _ _ ⟨rfl, rfl⟩
        refine wr_yes rfl rfl <| wr_y rfl (y_notD rfl) <| wr_yes rfl rfl <| wr_y rfl (y_pickF rfl rfl) <| wr_nil ?_
        exact ⟨(sc rfl (sc rfl (sc rfl (sc rfl (sc rfl (sc rfl (sc rfl (sc rfl (sc rfl (sc rfl (Sub.to rfl (mb (by first | omega | exact ⟨fun h => ⟨(by assumption), h⟩, fun h => h.2⟩ | exact .inl (by assumption) | exact ⟨.inr, fun h => h.resolve_left (by assumption)⟩ | exact ⟨fun h => h.resolve_left (by assumption), .inr⟩ | simp [*])) Sub.nil))))))))))), fun _ h => h⟩
      refine wr_y rfl (y_pickT rfl rfl) <| wr_nil ?_
      exact ⟨(sc rfl (sc rfl (sc rfl (sc rfl (sc rfl (sc rfl (sc rfl (sc rfl (sc rfl (Sub.to rfl (mb (by first | omega | exact ⟨fun h => ⟨(by assumption), h⟩, fun h => h.2⟩ | exact .inl (by assumption) | exact ⟨.inr, fun h => h.resolve_left (by assumption)⟩ | exact ⟨fun h => h.resolve_left (by assumption), .inr⟩ | simp [*])) Sub.nil)))))))))), fun _ h => h⟩
     ·
      refine wr_no rfl rfl rfl rfl <| wr_no rfl rfl rfl rfl <| wr_no rfl rfl rfl rfl <| wr_no rfl rfl rfl rfl <| wr_no rfl rfl rfl rfl <| wr_no rfl rfl rfl rfl <| wr_no rfl rfl rfl rfl <| wr_no rfl rfl rfl rfl <| wr_nou rfl rfl rfl <| wr_nou rfl rfl rfl <| wr_nou rfl rfl rfl <| wr_nou rfl rfl rfl <| wr_nou rfl rfl rfl <| wr_nou rfl rfl rfl <| wr_nou rfl rfl rfl ?_
      refine wr_no rfl rfl rfl rfl <| wr_no rfl rfl rfl rfl <| wr_nou rfl rfl rfl <| wr_nou rfl rfl rfl <| wr_nou rfl rfl rfl <| wr_nou rfl rfl rfl <| wr_nou rfl rfl rfl <| wr_nou rfl rfl rfl <| wr_nou rfl rfl rfl <| wr_nou rfl rfl rfl <| wr_nou rfl rfl rfl <| wr_nou rfl rfl rfl <| wr_no rfl rfl rfl rfl <| wr_y rfl (y_pickF rfl rfl) <| wr_nil ?_
      exact ⟨(sc rfl (sc rfl (sc rfl (sc rfl (sc rfl (sc rfl (sc rfl (sc rfl (sc rfl (Sub.to rfl (mb_f (by first | omega | exact ⟨fun h => ⟨(by assumption), h⟩, fun h => h.2⟩ | exact .inl (by assumption) | exact ⟨.inr, fun h => h.resolve_left (by assumption)⟩ | exact ⟨fun h => h.resolve_left (by assumption), .inr⟩ | simp [*])) Sub.nil)))))))))), fun _ h => h⟩
    refine wr_nil <| w_if rfl (fun hc8 => ?_) (fun hc8 => ?_)
    ·
     have hst := name_new (n := n) hlx hoq2.1 hg1 hg2 hc8
     refine w_reg <| wm rfl rfl <| wA rfl rfl rfl (by omega) <| wg rfl rfl <| wr_nil <| w_reg <| wm rfl rfl <| wm rfl rfl <| wm rfl rfl <| wm rfl rfl <| wr_y rfl (y_index1 underlying24 sz3 rfl rfl (rdr 0 rfl) (by omega) (by omega)) <| wr_n (a_storeI 0 rfl sz3 rfl rfl (by omega) (by omega)) ?_
     rintro _ _ rfl
     refine wr_rows (R1 := [⟨3, 1, (some ⟨g_2, 0, none⟩), s.length, s.length, ints .i64 (upd U (rd o q) (n + 1)), false⟩, ⟨3, 1, (some ⟨g_1, 0, none⟩), s.length, s.length, ints .i64 V, false⟩]) rfl <| wg rfl rfl <| wr_nil <| w_reg <| wA rfl rfl rfl (by omega) <| wm rfl rfl <| wr_nil ?_
     exact ⟨q + 1, upd U (rd o q) (n + 1), n + 1, rd o q, ⟨(by omega), (by omega), (hM.step hs hop hoo hV2 hq0 (by omega) hfq hst)⟩, (by omega), (sc rfl (sc rfl (sc rfl (sc rfl (sc rfl (sc rfl (sc rfl (sc rfl (sc rfl Sub.nil))))))))), fun _ h => h⟩
    ·
     have hst := name_old (n := n) hlm hlx hoq2.1 hg1 hg2 hc8
     refine w_skip <| w_reg <| wm rfl rfl <| wm rfl rfl <| wm rfl rfl <| wm rfl rfl <| wr_y rfl (y_index1 underlying24 sz3 rfl rfl (rdr 0 rfl) (by omega) (by omega)) <| wr_n (a_storeI 0 rfl sz3 rfl rfl (by omega) (by omega)) ?_
     rintro _ _ rfl
     refine wr_rows (R1 := [⟨3, 1, (some ⟨g_2, 0, none⟩), s.length, s.length, ints .i64 (upd U (rd o q) n), false⟩, ⟨3, 1, (some ⟨g_1, 0, none⟩), s.length, s.length, ints .i64 V, false⟩]) rfl <| wg rfl rfl <| wr_nil <| w_reg <| wA rfl rfl rfl (by omega) <| wm rfl rfl <| wr_nil ?_
     exact ⟨q + 1, upd U (rd o q) n, n, rd o q, ⟨(by omega), (by omega), (hM.step hs hop hoo hV2 hq0 (by omega) hfq hst)⟩, (by omega), (sc rfl (sc rfl (sc rfl (sc rfl (sc rfl (sc rfl (sc rfl (sc rfl (sc rfl Sub.nil))))))))), fun _ h => h⟩
  ·
   refine w_exit <| wq <| wr_sub (R1 := [⟨3, 1, none, 0, 0, ints .i64 ([]), false⟩, ⟨3, 1, (some ⟨g_2, 0, none⟩), s.length, s.length, ints .i64 U, false⟩, ⟨3, 1, (some ⟨g_1, 0, none⟩), s.length, s.length, ints .i64 V, false⟩]) (Sub.refl _) (fun _ h => h.nil 3 1) <| wg rfl rfl <| wr_nil <| w_seq <| wq <| wm rfl rfl <| wr_y rfl (y_len underlying24 rfl) <| wm rfl rfl <| wr_nil <| w_block ?_
   refine w_loop5 (fun (A1 : Option Addr) (n1 : Nat) (c1 : Nat) (acc : List Int) (j : Int) => [(11, .slice (some ⟨g_2, 0, none⟩) s.length s.length), (12, .int .i64 n), (16, .slice A1 n1 c1), (102, .slice A_f f.length c_f), (103, .int .i64 ((f.length : Nat) : Int)), (104, .int .i64 j)]) (fun (A1 : Option Addr) (n1 : Nat) (c1 : Nat) (acc : List Int) (j : Int) => [⟨3, 1, A1, n1, c1, ints .i64 acc, false⟩, ⟨3, 1, (some ⟨g_2, 0, none⟩), s.length, s.length, ints .i64 U, false⟩, ⟨3, 1, (some ⟨g_1, 0, none⟩), s.length, s.length, ints .i64 V, false⟩]) (fun (A1 : Option Addr) (n1 : Nat) (c1 : Nat) (acc : List Int) (j : Int) => (n1 = acc.length) ∧ (0 ≤ j) ∧ (j ≤ f.length) ∧ (acc = (f.take j.toNat).map (rd U))) (fun (A1 : Option Addr) (n1 : Nat) (c1 : Nat) (acc : List Int) (j : Int) => (f.length - j).toNat) ?_ ?_
   ·
    exact ⟨none, 0, 0, [], 0, ⟨(rfl), (by omega), (by omega), (rfl)⟩, (sc rfl (sc rfl (sc rfl (sc rfl (sc rfl (sc rfl Sub.nil)))))), fun _ h => h⟩
   intro A1 n1 c1 acc j ⟨hn1, hj0, hj1, hacc⟩
   have hal := congrArg List.length hacc
   rw [List.length_map, List.length_take] at hal
   have hfj : j < f.length → 0 ≤ rd f j ∧ rd f j < s.length := fun h => by subst hf; exact (fstL_at hj0 h).1
   refine wq <| wL rfl rfl rfl <| wr_nil <| w_seq <| w_if rfl (fun hc9 => ?_) (fun hc9 => ?_)
   ·
    refine w_skip <| w_seq <| w_block <| wq <| wr_y rfl (y_index1 underlying24 sz3 rfl rfl (h_f.c _) (by omega) (by omega)) <| wr_y rfl (y_ldI underlying3 rfl rfl (h_f.c _) (by omega) (by omega)) <| wg rfl rfl <| wr_nil <| w_reg <| wm rfl rfl <| wm rfl rfl <| wm rfl rfl <| wr_y rfl (y_index1 underlying24 sz3 rfl rfl (rdr 1 rfl) (by omega) (by omega)) <| wr_y rfl (y_ldI underlying3 rfl rfl (rdr 1 rfl) (by omega) (by omega)) ?_
    refine wr_a rfl (a_litI .i64 [rd U (rd f j)] underlying24 zs3 rfl rfl rfl) ?_
    rintro _ _ ⟨g_4, rfl, rfl⟩
    refine wr_a rfl (a_appendI 1 rfl underlying24 zb3 rfl rfl rfl (rdr 0 rfl) (by omega)) ?_
    rintro _ _ ⟨A_5, c_6, rfl, rfl⟩
    refine wr_rows (R1 := [⟨3, 1, (some ⟨g_4, 0, none⟩), 1, 1, ints .i64 ([rd U (rd f j)]), false⟩, ⟨3, 1, A_5, (n1 + 1), c_6, ints .i64 (acc ++ ([rd U (rd f j)])), false⟩, ⟨3, 1, (some ⟨g_2, 0, none⟩), s.length, s.length, ints .i64 U, false⟩, ⟨3, 1, (some ⟨g_1, 0, none⟩), s.length, s.length, ints .i64 V, false⟩]) rfl <| wr_as (v := .slice A_5 (n1 + 1) c_6) rfl <| wg rfl rfl <| wr_nil <| w_reg <| wA rfl rfl rfl (by omega) <| wm rfl rfl <| wr_nil ?_
    exact ⟨A_5, n1 + 1, c_6, acc ++ ([rd U (rd f j)]), j + 1, ⟨(by rw [List.length_append, hn1]; try rfl), (by omega), (by omega), (by rw [take_rd hj0 (by omega), List.map_append, hacc]; rfl)⟩, (by omega), (sc rfl (sc rfl (sc rfl (sc rfl (sc rfl (sc rfl Sub.nil)))))), fun _ h => h.sel [1, 2, 3] (by decide) rfl⟩
   ·
    refine w_exit <| wq <| wm rfl rfl <| wm rfl rfl <| wA rfl rfl rfl (by omega) <| wg rfl rfl <| wg rfl rfl <| wr_nil <| w_retR (R1 := [⟨3, 1, A1, n1, c1, ints .i64 acc, false⟩]) (fun _ h => h.sel [0] (by decide) rfl) ?_
    refine ⟨_, _, rfl, rfl, ?_⟩
    have hM2 : NamI s o V s.length U n la := by have e : q = s.length := (by omega); rw [← e]; exact hM
    rw [List.take_of_length_le (by omega)] at hacc
    subst hacc
    obtain rfl : n1 = f.length := by omega
    exact ⟨V, U, n, la, _, _, rfl, hV2, hM2, rfl⟩

set_option maxRecDepth 100000 in
set_option maxHeartbeats 1000000 in
theorem sortedStep_ct {w : World} {A_s : Option Addr} {n_s c_s : Nat} {s : List Int} {k : Int} (h_s : Rd w A_s n_s c_s 1 (ints .i64 s)) (IH : ∀ {w : World} {A_t : Option Addr} {n_t c_t : Nat} {t : List Int} {j : Int}, Rd w A_t n_t c_t 1 (ints .i64 t) → t.length < s.length → ((0 ≤ j ∧ j ≤ 1048576) ∧ ∀ x ∈ t, 0 ≤ x ∧ x < j) → t.length ≤ 1000000 → Ct Tryz.prog 137 #[.slice A_t n_t c_t, .int .i64 j] w.heap.size w [] (fun v R' => ∃ (b : List Int) (A : Option Addr) (c : Nat), v = .slice A t.length c ∧ b.Perm (iota t.length) ∧ b.Pairwise (ordE t) ∧ R' = [⟨3, 1, A, t.length, c, ints .i64 b, false⟩])) (hok : (0 ≤ k ∧ k ≤ 1048576) ∧ ∀ x ∈ s, 0 ≤ x ∧ x < k) (hN : s.length ≤ 1000000) :
  Ct Tryz.prog 137 #[.slice A_s n_s c_s, .int .i64 k] w.heap.size w [] (fun v R' => ∃ (b : List Int) (A : Option Addr) (c : Nat), v = .slice A s.length c ∧ b.Perm (iota s.length) ∧ b.Pairwise (ordE s) ∧ R' = [⟨3, 1, A, s.length, c, ints .i64 b, false⟩]) := by
 obtain rfl := h_s.lenI
 refine fn1 Tryz.func137 rfl rfl rfl ?_
 have m_s := h_s.max
 refine wq <| wg rfl rfl <| wr_nil <| wq <| wm rfl rfl <| wr_a rfl (a_callF en148 rfl (Ct.fresh (fun w hw => first_ct ((h_s.c _) w hw) (by first | assumption | omega | decide)))) ?_
 rintro _ _ ⟨_, rfl, A_1, c_2, rfl, rfl⟩
 refine wg rfl rfl <| wr_nil <| wq <| wm rfl rfl <| wm rfl rfl <| wm rfl rfl <| wr_a rfl (a_callF en149 rfl (Ct.fresh (fun w hw => sort_ct ((h_s.c _) w hw) ((rdr 0 rfl) w hw) hok (.refl _) hN))) ?_
 rintro _ _ ⟨_, rfl, A_3, c_4, rfl, rfl⟩
 refine wm rfl rfl <| wX rfl rfl rfl <| wX rfl rfl rfl <| wg rfl rfl <| wg rfl rfl <| wr_nil <| w_seq <| wq <| wm rfl rfl <| wr_y rfl (y_len underlying24 rfl) <| wL rfl rfl rfl <| wr_nil <| w_if rfl (fun hc1 => ?_) (fun hc1 => ?_)
 ·
  refine wq <| wm rfl rfl <| wg rfl rfl <| wr_nil <| w_retR (R1 := [⟨3, 1, A_3, ((s).length), c_4, ints .i64 (indS s k (fstL s)), false⟩]) (fun _ h => h.sel [0] (by decide) rfl) ?_
  refine ⟨_, rfl, ?_⟩
  exact ⟨_, _, _, rfl, (ind_facts hok.1.1 hok.2 (.refl _)).2.1, (ind_facts hok.1.1 hok.2 (.refl _)).2.2.2 (pw_short (by omega)), rfl⟩
 ·
  have hn1 : 0 < s.length := by have := fstL_len (s := s); omega
  have hpc := ind_pieces hok.1.1 hok.2 (l := fstL s) (.refl _) hn1
  have hsn : Nn s := fun x hx => (hok.2 x hx).1
  have hless := fstL_less hn1
  refine w_skip <| wq <| wm rfl rfl <| wm rfl rfl <| wm rfl rfl <| wr_a rfl (a_callF en150 rfl (Ct.fresh (fun w hw => named_ct ((h_s.c _) w hw) ((rdr 1 rfl) w hw) ((rdr 0 rfl) w hw) hsn rfl hpc.1 hpc.2 hN))) ?_
  rintro _ _ ⟨_, rfl, nx, nm, n, la, A_6, c_7, rfl, hNx, hNm, rfl⟩
  refine wm rfl rfl <| wX rfl rfl rfl <| wX rfl rfl rfl <| wg rfl rfl <| wg rfl rfl <| wr_nil <| wq <| wr_sub (R1 := [⟨3, 1, none, 0, 0, ints .i64 ([]), false⟩, ⟨3, 1, A_6, (fstL s).length, c_7, ints .i64 ((fstL s).map (rd nm)), false⟩, ⟨3, 1, A_3, ((s).length), c_4, ints .i64 (indS s k (fstL s)), false⟩, ⟨3, 1, A_1, (fstL s).length, c_2, ints .i64 (fstL s), false⟩]) (Sub.refl _) (fun _ h => h.nil 3 1) <| wg rfl rfl <| wr_nil <| w_seq <| wq <| wm rfl rfl ?_
  refine wm rfl rfl <| wr_a rfl (a_callF en137 rfl (Ct.fresh (fun w hw => IH ((rdr 1 rfl) w hw) (by rw [List.length_map]; exact hless) ⟨by have := hNm.bd; omega, names_in hNm hpc.1⟩ (by rw [List.length_map]; omega)))) ?_
  rintro _ _ ⟨_, rfl, b1, A_9, c_10, rfl, hp_b1, hs_b1, rfl⟩
  refine wr_y rfl (y_len underlying24 rfl) <| wm rfl rfl <| wr_nil <| w_block ?_
  refine w_loop5 (fun (A1 : Option Addr) (n1 : Nat) (c1 : Nat) (acc : List Int) (i : Int) => [(0, .slice A_s s.length c_s), (1, .int .i64 k), (5, .slice A_1 ((fstL s).length) c_2), (10, .slice A1 n1 c1), (35, .slice A_9 (((fstL s).map (rd nm)).length) c_10), (36, .int .i64 ((((fstL s).map (rd nm)).length : Nat) : Int)), (37, .int .i64 i)]) (fun (A1 : Option Addr) (n1 : Nat) (c1 : Nat) (acc : List Int) (i : Int) => [⟨3, 1, A_9, ((fstL s).map (rd nm)).length, c_10, ints .i64 b1, false⟩, ⟨3, 1, A1, n1, c1, ints .i64 acc, false⟩, ⟨3, 1, A_6, (fstL s).length, c_7, ints .i64 ((fstL s).map (rd nm)), false⟩, ⟨3, 1, A_3, ((s).length), c_4, ints .i64 (indS s k (fstL s)), false⟩, ⟨3, 1, A_1, (fstL s).length, c_2, ints .i64 (fstL s), false⟩]) (fun (A1 : Option Addr) (n1 : Nat) (c1 : Nat) (acc : List Int) (i : Int) => (n1 = acc.length) ∧ (0 ≤ i) ∧ (i ≤ b1.length) ∧ (acc = (b1.take i.toNat).map (rd (fstL s)))) (fun (A1 : Option Addr) (n1 : Nat) (c1 : Nat) (acc : List Int) (i : Int) => (b1.length - i).toNat) ?_ ?_
  ·
   exact ⟨none, 0, 0, [], 0, ⟨(rfl), (by omega), (by omega), (rfl)⟩, (sc rfl (sc rfl (sc rfl (sc rfl (sc rfl (sc rfl (sc rfl Sub.nil))))))), fun _ h => h⟩
  intro A1 n1 c1 acc i ⟨hn1, hi0, hi1, hacc⟩
  have hml : ((fstL s).map (rd nm)).length = (fstL s).length := List.length_map _
  have hbl : b1.length = (fstL s).length := by rw [hp_b1.length_eq, iota_len, List.length_map]
  have hal := congrArg List.length hacc
  rw [List.length_map, List.length_take] at hal
  have hbi : i < b1.length → 0 ≤ rd b1 i ∧ rd b1 i < (fstL s).length := fun h => by
   have := mem_iota.1 (hp_b1.subset (rd_mem (L := b1) hi0 h))
   rwa [List.length_map] at this
  refine wq <| wL rfl rfl rfl <| wr_nil <| w_seq <| w_if rfl (fun hc2 => ?_) (fun hc2 => ?_)
  ·
   refine w_skip <| w_seq <| w_block <| wq <| wr_y rfl (y_index1 underlying24 sz3 rfl rfl (rdr 0 rfl) (by omega) (by omega)) <| wr_y rfl (y_ldI underlying3 rfl rfl (rdr 0 rfl) (by omega) (by omega)) <| wg rfl rfl <| wr_nil <| w_reg <| wm rfl rfl <| wm rfl rfl <| wm rfl rfl <| wr_y rfl (y_index1 underlying24 sz3 rfl rfl (rdr 4 rfl) (by omega) (by omega)) <| wr_y rfl (y_ldI underlying3 rfl rfl (rdr 4 rfl) (by omega) (by omega)) ?_
   refine wr_a rfl (a_litI .i64 [rd (fstL s) (rd b1 i)] underlying24 zs3 rfl rfl rfl) ?_
   rintro _ _ ⟨g_13, rfl, rfl⟩
   refine wr_a rfl (a_appendI 2 rfl underlying24 zb3 rfl rfl rfl (rdr 0 rfl) (by omega)) ?_
   rintro _ _ ⟨A_14, c_15, rfl, rfl⟩
   refine wr_rows (R1 := [⟨3, 1, (some ⟨g_13, 0, none⟩), 1, 1, ints .i64 ([rd (fstL s) (rd b1 i)]), false⟩, ⟨3, 1, A_9, ((fstL s).map (rd nm)).length, c_10, ints .i64 b1, false⟩, ⟨3, 1, A_14, (n1 + 1), c_15, ints .i64 (acc ++ ([rd (fstL s) (rd b1 i)])), false⟩, ⟨3, 1, A_6, (fstL s).length, c_7, ints .i64 ((fstL s).map (rd nm)), false⟩, ⟨3, 1, A_3, ((s).length), c_4, ints .i64 (indS s k (fstL s)), false⟩, ⟨3, 1, A_1, (fstL s).length, c_2, ints .i64 (fstL s), false⟩]) rfl <| wr_as (v := .slice A_14 (n1 + 1) c_15) rfl <| wg rfl rfl <| wr_nil <| w_reg <| wA rfl rfl rfl (by omega) <| wm rfl rfl <| wr_nil ?_
   exact ⟨A_14, n1 + 1, c_15, acc ++ ([rd (fstL s) (rd b1 i)]), i + 1, ⟨(by rw [List.length_append, hn1]; try rfl), (by omega), (by omega), (by rw [take_rd hi0 (by omega), List.map_append, hacc]; rfl)⟩, (by omega), (sc rfl (sc rfl (sc rfl (sc rfl (sc rfl (sc rfl (sc rfl Sub.nil))))))), fun _ h => h.sel [1, 2, 3, 4, 5] (by decide) rfl⟩
  ·
   have hac : acc = b1.map (rd (fstL s)) := by rw [hacc, List.take_of_length_le (by omega)]
   have hr := right_ok hsn hNm hpc.1 hpc.2 hNx hp_b1 hs_b1
   have hap : acc.Perm (fstL s) := by rw [hac]; exact hr.1
   have hao : acc.Pairwise (ordE s) := by rw [hac]; exact hr.2
   refine w_exit <| wq <| wm rfl rfl <| wm rfl rfl <| wm rfl rfl <| wr_a rfl (a_callF en149 rfl (Ct.fresh (fun w hw => sort_ct ((h_s.c _) w hw) ((rdr 1 rfl) w hw) hok hap hN))) ?_
   rintro _ _ ⟨_, rfl, A_16, c_17, rfl, rfl⟩
   refine wm rfl rfl <| wX rfl rfl rfl <| wX rfl rfl rfl <| wg rfl rfl <| wr_nil <| wq <| wm rfl rfl <| wg rfl rfl <| wr_nil <| w_retR (R1 := [⟨3, 1, A_16, ((s).length), c_17, ints .i64 (indS s k acc), false⟩]) (fun _ h => h.sel [0] (by decide) rfl) ?_
   refine ⟨_, rfl, ?_⟩
   exact ⟨_, _, _, rfl, (ind_facts hok.1.1 hok.2 hap).2.1, (ind_facts hok.1.1 hok.2 hap).2.2.2 hao, rfl⟩

theorem sortedAll (m : Nat) : ∀ {w : World} {A_s : Option Addr} {n_s c_s : Nat} {s : List Int} {k : Int}, Rd w A_s n_s c_s 1 (ints .i64 s) → s.length < m → ((0 ≤ k ∧ k ≤ 1048576) ∧ ∀ x ∈ s, 0 ≤ x ∧ x < k) → s.length ≤ 1000000 →
  Ct Tryz.prog 137 #[.slice A_s n_s c_s, .int .i64 k] w.heap.size w [] (fun v R' => ∃ (b : List Int) (A : Option Addr) (c : Nat), v = .slice A s.length c ∧ b.Perm (iota s.length) ∧ b.Pairwise (ordE s) ∧ R' = [⟨3, 1, A, s.length, c, ints .i64 b, false⟩]) := by
 induction m with
 | zero => intro w A n c s k _ h; omega
 | succ m ih =>
  intro w A n c s k h_s hm hok hN
  exact sortedStep_ct h_s (fun h1 h2 h3 h4 => ih h1 (by omega) h3 h4) hok hN
theorem saisSorted_ct {w : World} {A_s : Option Addr} {n_s c_s : Nat} {s : List Int} {k : Int} (h_s : Rd w A_s n_s c_s 1 (ints .i64 s)) (hok : (0 ≤ k ∧ k ≤ 1048576) ∧ ∀ x ∈ s, 0 ≤ x ∧ x < k) (hN : s.length ≤ 1000000) :
  Ct Tryz.prog 137 #[.slice A_s n_s c_s, .int .i64 k] w.heap.size w [] (fun v R' => ∃ (b : List Int) (A : Option Addr) (c : Nat), v = .slice A s.length c ∧ b.Perm (iota s.length) ∧ b.Pairwise (ordE s) ∧ R' = [⟨3, 1, A, s.length, c, ints .i64 b, false⟩]) := sortedAll (s.length + 1) h_s (by omega) hok hN
set_option maxRecDepth 100000 in
theorem sints_ct {w : World} {A_s : Option Addr} {n_s c_s : Nat} {s : List Int} {k : Int} (h_s : Rd w A_s n_s c_s 1 (ints .i64 s)) (hok : (0 ≤ k ∧ k ≤ 1048576) ∧ ∀ x ∈ s, 0 ≤ x ∧ x < k) (hN : s.length ≤ 100000) :
  Ct Tryz.prog 106 #[.slice A_s n_s c_s, .int .i64 k] w.heap.size w [] (fun v R' => ∃ (b : List Int) (A : Option Addr) (c : Nat), v = .tuple #[.slice A s.length c, .int .i64 0] ∧ b.Perm (iota s.length) ∧ b.Pairwise (ordE s) ∧ R' = [⟨3, 1, A, s.length, c, ints .i64 b, false⟩]) := by
 obtain rfl := h_s.lenI
 refine fn2 Tryz.func106 rfl rfl rfl ?_
 have m_s := h_s.max
 refine wq <| wg rfl rfl <| wg rfl rfl <| wr_nil <| w_seq <| wq <| wm rfl rfl <| wr_y rfl (y_len underlying24 rfl) <| wr_y rfl (Yl.f (y_gt rfl rfl) (by omega)) <| wr_nil <| w_false rfl <| w_skip <| w_seq ?_
 refine wq <| wm rfl rfl <| wm rfl rfl <| wr_a rfl (a_callF en94 rfl (Ct.fresh (fun w hw => countsOk_ct ((h_s.c _) w hw) (by first | assumption | omega | decide)))) ?_
 rintro _ _ ⟨_, rfl, A_1, c_2, rfl, rfl⟩
 refine wm rfl rfl <| wX rfl rfl rfl <| wX rfl rfl rfl <| wg rfl rfl <| wg rfl rfl <| wr_nil <| wq <| wm rfl rfl <| wr_y rfl (y_not rfl) <| wr_nil <| w_false rfl <| w_skip <| wq ?_
 refine wm rfl rfl <| wm rfl rfl <| wr_a rfl (a_callF en137 rfl (Ct.fresh (fun w hw => saisSorted_ct ((h_s.c _) w hw) hok (by omega)))) ?_
 rintro _ _ ⟨_, rfl, b1, A_4, c_5, rfl, hp_b1, hs_b1, rfl⟩
 refine wg rfl rfl <| wg rfl rfl <| wr_nil <| w_retR (R1 := [⟨3, 1, A_4, s.length, c_5, ints .i64 b1, false⟩]) (fun _ h => h.sel [0] (by decide) rfl) ?_
 refine ⟨_, _, rfl, rfl, ?_⟩
 exact ⟨b1, _, _, rfl, hp_b1, hs_b1, rfl⟩

set_option maxRecDepth 100000 in
theorem sbytes_ct {w : World} {A_u : Option Addr} {n_u c_u : Nat} {u : List Int} (h_u : Rd w A_u n_u c_u 1 (ints .u8 u)) (bh_u : ByteL u) (hN : u.length ≤ 100000) :
  Ct Tryz.prog 76 #[.slice A_u n_u c_u] w.heap.size w [] (fun v R' => ∃ (b : List Int) (A : Option Addr) (c : Nat), v = .tuple #[.slice A u.length c, .int .i64 0] ∧ b.Perm (iota u.length) ∧ b.Pairwise (ordE u) ∧ R' = [⟨3, 1, A, u.length, c, ints .i64 b, false⟩]) := by
 obtain rfl := h_u.lenI
 refine fn2 Tryz.func76 rfl rfl rfl ?_
 have m_u := h_u.max
 refine wq <| wg rfl rfl <| wg rfl rfl <| wr_nil <| wq <| wr_sub (R1 := [⟨3, 1, none, 0, 0, ints .i64 ([]), false⟩]) (Sub.refl _) (fun _ h => h.nil 3 1) <| wg rfl rfl <| wr_nil <| w_seq <| wq <| wm rfl rfl <| wr_y rfl (y_len underlying23 rfl) ?_
 refine wr_y rfl (Yl.t (y_le rfl rfl) (by omega)) <| wr_nil <| w_true rfl <| w_seq <| wq <| wm rfl rfl <| wr_y rfl (y_len underlying23 rfl) <| wm rfl rfl <| wr_nil <| w_block ?_
 refine w_loop5 (fun (A1 : Option Addr) (n1 : Nat) (c1 : Nat) (acc : List Int) (i : Int) => [(4, .slice A1 n1 c1), (10, .slice A_u u.length c_u), (11, .int .i64 ((u.length : Nat) : Int)), (12, .int .i64 i)]) (fun (A1 : Option Addr) (n1 : Nat) (c1 : Nat) (acc : List Int) (i : Int) => [⟨3, 1, A1, n1, c1, ints .i64 acc, false⟩]) (fun (A1 : Option Addr) (n1 : Nat) (c1 : Nat) (acc : List Int) (i : Int) => (n1 = acc.length) ∧ (0 ≤ i) ∧ (i ≤ u.length) ∧ (acc = u.take i.toNat)) (fun (A1 : Option Addr) (n1 : Nat) (c1 : Nat) (acc : List Int) (i : Int) => (u.length - i).toNat) ?_ ?_
 ·
  exact ⟨none, 0, 0, [], 0, ⟨(rfl), (by omega), (by omega), (rfl)⟩, (sc rfl (sc rfl (sc rfl (sc rfl Sub.nil)))), fun _ h => h⟩
 intro A1 n1 c1 acc i ⟨hn1, hi0, hi1, hacc⟩
 have hal := congrArg List.length hacc
 rw [List.length_take] at hal
 refine wq <| wL rfl rfl rfl <| wr_nil <| w_seq <| w_if rfl (fun hc1 => ?_) (fun hc1 => ?_)
 ·
  have hbi := bh_u.rd i
  refine w_skip <| w_seq <| w_block <| wq <| wr_y rfl (y_index1 underlying23 sz5 rfl rfl (h_u.c _) (by omega) (by omega)) <| wr_y rfl (y_ldI underlying5 rfl rfl (h_u.c _) (by omega) (by omega)) <| wg rfl rfl <| wr_nil <| w_reg <| wm rfl rfl <| wm rfl rfl <| wr_y rfl (y_convI underlying5 underlying3 rfl (by omega)) <| wr_a rfl (a_litI .i64 [rd u i] underlying24 zs3 rfl rfl rfl) ?_
  rintro _ _ ⟨g_2, rfl, rfl⟩
  refine wr_a rfl (a_appendI 1 rfl underlying24 zb3 rfl rfl rfl (rdr 0 rfl) (by omega)) ?_
  rintro _ _ ⟨A_3, c_4, rfl, rfl⟩
  refine wr_rows (R1 := [⟨3, 1, (some ⟨g_2, 0, none⟩), 1, 1, ints .i64 ([rd u i]), false⟩, ⟨3, 1, A_3, (n1 + 1), c_4, ints .i64 (acc ++ ([rd u i])), false⟩]) rfl <| wr_as (v := .slice A_3 (n1 + 1) c_4) rfl <| wg rfl rfl <| wr_nil <| w_reg <| wA rfl rfl rfl (by omega) <| wm rfl rfl <| wr_nil ?_
  exact ⟨A_3, n1 + 1, c_4, acc ++ ([rd u i]), i + 1, ⟨(by rw [List.length_append, hn1]; try rfl), (by omega), (by omega), (by rw [take_rd hi0 (by omega), hacc])⟩, (by omega), (sc rfl (sc rfl (sc rfl (sc rfl Sub.nil)))), fun _ h => h.sel [1] (by decide) rfl⟩
 ·
  have hau : acc = u := by rw [hacc, List.take_of_length_le (by omega)]
  refine w_exit <| wq <| wm rfl rfl <| wr_a rfl (a_callF en106 rfl (Ct.fresh (fun w hw => sints_ct ((rdr 0 rfl) w hw) ⟨by omega, fun x hx => by rw [hau] at hx; have := bh_u x hx; omega⟩ (by omega)))) ?_
  rintro _ _ ⟨_, rfl, b1, A_5, c_6, rfl, hp_b1, hs_b1, rfl⟩
  refine wX rfl rfl rfl <| wX rfl rfl rfl <| wg rfl rfl <| wg rfl rfl <| wr_nil <| w_retR (R1 := [⟨3, 1, A_5, acc.length, c_6, ints .i64 b1, false⟩]) (fun _ h => h.sel [0] (by decide) rfl) ?_
  refine ⟨_, _, rfl, rfl, ?_⟩
  subst hau
  exact ⟨b1, _, _, rfl, hp_b1, hs_b1, rfl⟩

end Go.Proofs.YtdfcnalkdlifiaaGreat

/-! ## K3 -/
namespace Go.Proofs.YtdfcnalkdlifiaaGreat
open Go Go.Eng Go.Pure
open Tryz
set_option linter.unusedVariables false
set_option maxRecDepth 100000 in
theorem add64_0_ct {B : Nat} {w0 : World} {R : List Row} {g : Nat} {a0 a1 a2 : Int} (hr : 0 ≤ a0 ∧ a0 < 1000000) :
  Ct Tryz.prog 79 #[.pointer (some ⟨g, 0, none⟩), .int .i64 1] B w0 (⟨93, 3, (some ⟨g, 0, none⟩), 1, 1, [.int .i64 a0, .int .i64 a1, .int .i64 a2], false⟩ :: R) (fun v R' => v = .int .i64 (a0 + 1) ∧ R' = ⟨93, 3, (some ⟨g, 0, none⟩), 1, 1, [.int .i64 (a0 + 1), .int .i64 a1, .int .i64 a2], false⟩ :: R) := by
 refine fn1 Tryz.func79 rfl rfl rfl ?_
 refine wq <| wg rfl rfl <| wr_nil <| wq <| wm rfl rfl <| wr_y rfl (y_nilCheck rfl) <| wr_y rfl (y_fieldAt (off := 0) (m := 0) underlying90 rfl sz2 rfl rfl rfl) <| wm rfl rfl <| wr_a rfl (a_ext rfl (fun w hw => ⟨_, run_call_add (P := Tryz.prog) Tryz.func109 (by kernel_rfl) (by kernel_rfl) (by kernel_rfl) .i64 (by kernel_rfl) (y := 1) (s := a0 + 1) (hw.cellAt 0 (r := ⟨93, 3, (some ⟨g, 0, none⟩), 1, 1, [.int .i64 a0, .int .i64 a1, .int .i64 a2], false⟩) (j := 0) rfl rfl rfl) (hw.openAt 0 (r := ⟨93, 3, (some ⟨g, 0, none⟩), 1, 1, [.int .i64 a0, .int .i64 a1, .int .i64 a2], false⟩) 0 rfl rfl rfl) (by have : IntKind.i64.wrap (a0 + 1) = a0 + 1 := (by rw [IntKind.wrap_i64]; omega); simp [Op.intArith, this]), hw.set1 0 (r := ⟨93, 3, (some ⟨g, 0, none⟩), 1, 1, [.int .i64 a0, .int .i64 a1, .int .i64 a2], false⟩) (j := 0) (v := .int .i64 (a0 + 1)) rfl rfl rfl⟩)) ?_
 rintro _ _ ⟨rfl, rfl⟩
 refine wr_rows (R1 := (⟨93, 3, (some ⟨g, 0, none⟩), 1, 1, [.int .i64 (a0 + 1), .int .i64 a1, .int .i64 a2], false⟩ :: R)) rfl <| wg rfl rfl <| wr_nil <| w_ret ?_
 refine ⟨_, rfl, ?_⟩
 exact ⟨rfl, rfl⟩

set_option maxRecDepth 100000 in
theorem add64_1_ct {B : Nat} {w0 : World} {R : List Row} {g : Nat} {a0 a1 a2 : Int} (hr : 0 ≤ a1 ∧ a1 < 1000000) :
  Ct Tryz.prog 79 #[.pointer (some ⟨g, 1, none⟩), .int .i64 1] B w0 (⟨93, 3, (some ⟨g, 0, none⟩), 1, 1, [.int .i64 a0, .int .i64 a1, .int .i64 a2], false⟩ :: R) (fun v R' => v = .int .i64 (a1 + 1) ∧ R' = ⟨93, 3, (some ⟨g, 0, none⟩), 1, 1, [.int .i64 a0, .int .i64 (a1 + 1), .int .i64 a2], false⟩ :: R) := by
 refine fn1 Tryz.func79 rfl rfl rfl ?_
 refine wq <| wg rfl rfl <| wr_nil <| wq <| wm rfl rfl <| wr_y rfl (y_nilCheck rfl) <| wr_y rfl (y_fieldAt (off := 0) (m := 1) underlying90 rfl sz2 rfl rfl rfl) <| wm rfl rfl <| wr_a rfl (a_ext rfl (fun w hw => ⟨_, run_call_add (P := Tryz.prog) Tryz.func109 (by kernel_rfl) (by kernel_rfl) (by kernel_rfl) .i64 (by kernel_rfl) (y := 1) (s := a1 + 1) (hw.cellAt 0 (r := ⟨93, 3, (some ⟨g, 0, none⟩), 1, 1, [.int .i64 a0, .int .i64 a1, .int .i64 a2], false⟩) (j := 1) rfl rfl rfl) (hw.openAt 0 (r := ⟨93, 3, (some ⟨g, 0, none⟩), 1, 1, [.int .i64 a0, .int .i64 a1, .int .i64 a2], false⟩) 1 rfl rfl rfl) (by have : IntKind.i64.wrap (a1 + 1) = a1 + 1 := (by rw [IntKind.wrap_i64]; omega); simp [Op.intArith, this]), hw.set1 0 (r := ⟨93, 3, (some ⟨g, 0, none⟩), 1, 1, [.int .i64 a0, .int .i64 a1, .int .i64 a2], false⟩) (j := 1) (v := .int .i64 (a1 + 1)) rfl rfl rfl⟩)) ?_
 rintro _ _ ⟨rfl, rfl⟩
 refine wr_rows (R1 := (⟨93, 3, (some ⟨g, 0, none⟩), 1, 1, [.int .i64 a0, .int .i64 (a1 + 1), .int .i64 a2], false⟩ :: R)) rfl <| wg rfl rfl <| wr_nil <| w_ret ?_
 refine ⟨_, rfl, ?_⟩
 exact ⟨rfl, rfl⟩

set_option maxRecDepth 100000 in
theorem add64_2_ct {B : Nat} {w0 : World} {R : List Row} {g : Nat} {a0 a1 a2 : Int} (hr : 0 ≤ a2 ∧ a2 < 1000000) :
  Ct Tryz.prog 79 #[.pointer (some ⟨g, 2, none⟩), .int .i64 1] B w0 (⟨93, 3, (some ⟨g, 0, none⟩), 1, 1, [.int .i64 a0, .int .i64 a1, .int .i64 a2], false⟩ :: R) (fun v R' => v = .int .i64 (a2 + 1) ∧ R' = ⟨93, 3, (some ⟨g, 0, none⟩), 1, 1, [.int .i64 a0, .int .i64 a1, .int .i64 (a2 + 1)], false⟩ :: R) := by
 refine fn1 Tryz.func79 rfl rfl rfl ?_
 refine wq <| wg rfl rfl <| wr_nil <| wq <| wm rfl rfl <| wr_y rfl (y_nilCheck rfl) <| wr_y rfl (y_fieldAt (off := 0) (m := 2) underlying90 rfl sz2 rfl rfl rfl) <| wm rfl rfl <| wr_a rfl (a_ext rfl (fun w hw => ⟨_, run_call_add (P := Tryz.prog) Tryz.func109 (by kernel_rfl) (by kernel_rfl) (by kernel_rfl) .i64 (by kernel_rfl) (y := 1) (s := a2 + 1) (hw.cellAt 0 (r := ⟨93, 3, (some ⟨g, 0, none⟩), 1, 1, [.int .i64 a0, .int .i64 a1, .int .i64 a2], false⟩) (j := 2) rfl rfl rfl) (hw.openAt 0 (r := ⟨93, 3, (some ⟨g, 0, none⟩), 1, 1, [.int .i64 a0, .int .i64 a1, .int .i64 a2], false⟩) 2 rfl rfl rfl) (by have : IntKind.i64.wrap (a2 + 1) = a2 + 1 := (by rw [IntKind.wrap_i64]; omega); simp [Op.intArith, this]), hw.set1 0 (r := ⟨93, 3, (some ⟨g, 0, none⟩), 1, 1, [.int .i64 a0, .int .i64 a1, .int .i64 a2], false⟩) (j := 2) (v := .int .i64 (a2 + 1)) rfl rfl rfl⟩)) ?_
 rintro _ _ ⟨rfl, rfl⟩
 refine wr_rows (R1 := (⟨93, 3, (some ⟨g, 0, none⟩), 1, 1, [.int .i64 a0, .int .i64 a1, .int .i64 (a2 + 1)], false⟩ :: R)) rfl <| wg rfl rfl <| wr_nil <| w_ret ?_
 refine ⟨_, rfl, ?_⟩
 exact ⟨rfl, rfl⟩

set_option maxRecDepth 100000 in
theorem crossNew_ct {w : World}  :
  Ct Tryz.prog 26 #[] w.heap.size w [] (fun v R' => ∃ g, v = .pointer (some ⟨g, 0, none⟩) ∧ R' = [⟨93, 3, (some ⟨g, 0, none⟩), 1, 1, [.int .i64 0, .int .i64 0, .int .i64 0], false⟩]) := by
 refine fn1 Tryz.func26 rfl rfl rfl ?_
 refine wq <| wg rfl rfl <| wr_nil <| wq <| wr_y rfl (y_build (v := .agg #[.int .i64 0, .int .i64 0, .int .i64 0]) rfl (fun w => by kernel_rfl)) <| wr_a rfl (a_box (sz := 3) rfl rfl) ?_
 rintro _ _ ⟨g_1, rfl, rfl⟩
 refine wr_rows (R1 := [⟨93, 3, (some ⟨g_1, 0, none⟩), 1, 1, [.int .i64 0, .int .i64 0, .int .i64 0], false⟩]) rfl <| wg rfl rfl <| wr_nil <| w_retR (R1 := [⟨93, 3, (some ⟨g_1, 0, none⟩), 1, 1, [.int .i64 0, .int .i64 0, .int .i64 0], false⟩]) (fun _ h => h.sel [0] (by decide) rfl) ?_
 refine ⟨_, rfl, ?_⟩
 exact ⟨_, rfl, rfl⟩

set_option maxRecDepth 100000 in
theorem crossSort0_ct {B : Nat} {w0 : World} {R : List Row} {g : Nat} {a0 a1 a2 : Int} {A_u : Option Addr} {n_u c_u : Nat} {u : List Int} (h_u : RdC B w0 R A_u n_u c_u 1 (ints .u8 u)) (hn_u : n_u = u.length) (bh_u : ByteL u) (hN : u.length ≤ 100000) (ha : 0 ≤ a0 ∧ a0 < 1000000) :
  Ct Tryz.prog 48 #[.pointer (some ⟨g, 0, none⟩), .int .i64 0, .slice A_u n_u c_u] B w0 (⟨93, 3, (some ⟨g, 0, none⟩), 1, 1, [.int .i64 a0, .int .i64 a1, .int .i64 a2], false⟩ :: R) (fun v R' => ∃ (b : List Int) (A : Option Addr) (c : Nat), v = .tuple #[.slice A u.length c, .int .i64 0] ∧ b.Perm (iota u.length) ∧ b.Pairwise (ordE u) ∧ R' = ⟨3, 1, A, u.length, c, ints .i64 b, false⟩ :: ⟨93, 3, (some ⟨g, 0, none⟩), 1, 1, [.int .i64 (a0 + 1), .int .i64 a1, .int .i64 a2], false⟩ :: R) := by
 subst hn_u
 refine fn2 Tryz.func48 rfl rfl rfl ?_
 refine wq <| wg rfl rfl <| wg rfl rfl <| wr_nil <| w_seq <| wq <| wm rfl rfl <| wr_y rfl (y_ptrEq underlying52 rfl rfl) <| wm rfl rfl <| wr_yes rfl rfl <| wm rfl rfl <| wr_yes rfl rfl <| wr_y rfl (Yl.f (y_lt rfl rfl) (by decide)) ?_
 refine wr_y rfl (y_pickF rfl rfl) <| wm rfl rfl <| wr_yes rfl rfl <| wm rfl rfl <| wr_yes rfl rfl <| wr_y rfl (Yl.f (y_ge rfl rfl) (by decide)) <| wr_y rfl (y_pickF rfl rfl) <| wr_nil <| w_false rfl <| w_skip <| wq <| wr_y rfl (y_build (v := .agg #[.func (.func 76) #[] #[], .func (.func 77) #[] #[], .func (.func 78) #[] #[]]) rfl (fun w => by kernel_rfl)) <| wm rfl rfl <| wr_y rfl (y_ix (v := .func (.func 76) #[] #[]) rfl rfl (fun w => by kernel_rfl)) ?_
 refine wg rfl rfl <| wr_nil <| wq <| wm rfl rfl <| wm rfl rfl <| wr_a rfl (a_call en76 rfl rfl (Ct.fresh (fun w hw => sbytes_ct ((RdC.right h_u [_]) w hw) bh_u hN))) ?_
 rintro _ _ ⟨_, rfl, b1, A_1, c_2, rfl, hp_b1, hs_b1, rfl⟩
 refine wm rfl rfl <| wX rfl rfl rfl <| wX rfl rfl rfl <| wg rfl rfl <| wg rfl rfl <| wr_nil <| w_seq <| wq <| wm rfl rfl <| wr_y rfl (Yl.t (y_eq rfl rfl) (by decide)) <| wr_nil <| w_true rfl <| w_reg <| wm rfl rfl ?_
 refine wm rfl rfl <| wr_y rfl (y_nilCheck rfl) <| wr_y rfl (y_fieldAt (off := 0) (m := 0) underlying93 rfl sz91 rfl rfl rfl) <| wr_y rfl (y_indexIn (q := 0) (rdR 1 (r := ⟨93, 3, (some ⟨g, 0, none⟩), 1, 1, [.int .i64 a0, .int .i64 a1, .int .i64 a2], false⟩) rfl) underlying91 sz90 rfl rfl (Nat.le_of_ble_eq_true rfl) (by decide) (by decide) rfl) <| wr_a rfl (a_callF en79 rfl (Ct.at 1 rfl (add64_0_ct (by omega)))) ?_
 rintro _ _ ⟨rfl, rfl⟩
 refine wr_rows (R1 := (⟨3, 1, A_1, u.length, c_2, ints .i64 b1, false⟩ :: ⟨93, 3, (some ⟨g, 0, none⟩), 1, 1, [.int .i64 (a0 + 1), .int .i64 a1, .int .i64 a2], false⟩ :: R)) rfl <| wr_nil <| wq <| wm rfl rfl <| wm rfl rfl <| wg rfl rfl <| wg rfl rfl <| wr_nil <| w_retR (R1 := (⟨3, 1, A_1, u.length, c_2, ints .i64 b1, false⟩ :: ⟨93, 3, (some ⟨g, 0, none⟩), 1, 1, [.int .i64 (a0 + 1), .int .i64 a1, .int .i64 a2], false⟩ :: R)) (fun _ h => h) ?_
 refine ⟨_, _, rfl, rfl, ?_⟩
 exact ⟨b1, _, _, rfl, hp_b1, hs_b1, rfl⟩

set_option maxRecDepth 100000 in
theorem crossSort1_ct {B : Nat} {w0 : World} {R : List Row} {g : Nat} {a0 a1 a2 : Int} {A_u : Option Addr} {n_u c_u : Nat} {u : List Int} (h_u : RdC B w0 R A_u n_u c_u 1 (ints .u8 u)) (hn_u : n_u = u.length) (bh_u : ByteL u) (hN : u.length ≤ 100000) (ha : 0 ≤ a1 ∧ a1 < 1000000) :
  Ct Tryz.prog 48 #[.pointer (some ⟨g, 0, none⟩), .int .i64 1, .slice A_u n_u c_u] B w0 (⟨93, 3, (some ⟨g, 0, none⟩), 1, 1, [.int .i64 a0, .int .i64 a1, .int .i64 a2], false⟩ :: R) (fun v R' => ∃ (b : List Int) (A : Option Addr) (c : Nat), v = .tuple #[.slice A u.length c, .int .i64 0] ∧ b.Perm (iota u.length) ∧ b.Pairwise (ordE u) ∧ R' = ⟨3, 1, A, u.length, c, ints .i64 b, false⟩ :: ⟨93, 3, (some ⟨g, 0, none⟩), 1, 1, [.int .i64 a0, .int .i64 (a1 + 1), .int .i64 a2], false⟩ :: R) := by
 subst hn_u
 refine fn2 Tryz.func48 rfl rfl rfl ?_
 refine wq <| wg rfl rfl <| wg rfl rfl <| wr_nil <| w_seq <| wq <| wm rfl rfl <| wr_y rfl (y_ptrEq underlying52 rfl rfl) <| wm rfl rfl <| wr_yes rfl rfl <| wm rfl rfl <| wr_yes rfl rfl <| wr_y rfl (Yl.f (y_lt rfl rfl) (by decide)) ?_
 refine wr_y rfl (y_pickF rfl rfl) <| wm rfl rfl <| wr_yes rfl rfl <| wm rfl rfl <| wr_yes rfl rfl <| wr_y rfl (Yl.f (y_ge rfl rfl) (by decide)) <| wr_y rfl (y_pickF rfl rfl) <| wr_nil <| w_false rfl <| w_skip <| wq <| wr_y rfl (y_build (v := .agg #[.func (.func 76) #[] #[], .func (.func 77) #[] #[], .func (.func 78) #[] #[]]) rfl (fun w => by kernel_rfl)) <| wm rfl rfl <| wr_y rfl (y_ix (v := .func (.func 77) #[] #[]) rfl rfl (fun w => by kernel_rfl)) ?_
 refine wg rfl rfl <| wr_nil <| wq <| wm rfl rfl <| wm rfl rfl <| wr_a rfl (a_call en77 rfl rfl (Ct.fresh (fun w hw => kbytes_ct ((RdC.right h_u [_]) w hw) bh_u hN))) ?_
 rintro _ _ ⟨_, rfl, b1, A_1, c_2, rfl, hp_b1, hs_b1, rfl⟩
 refine wm rfl rfl <| wX rfl rfl rfl <| wX rfl rfl rfl <| wg rfl rfl <| wg rfl rfl <| wr_nil <| w_seq <| wq <| wm rfl rfl <| wr_y rfl (Yl.t (y_eq rfl rfl) (by decide)) <| wr_nil <| w_true rfl <| w_reg <| wm rfl rfl ?_
 refine wm rfl rfl <| wr_y rfl (y_nilCheck rfl) <| wr_y rfl (y_fieldAt (off := 0) (m := 0) underlying93 rfl sz91 rfl rfl rfl) <| wr_y rfl (y_indexIn (q := 1) (rdR 1 (r := ⟨93, 3, (some ⟨g, 0, none⟩), 1, 1, [.int .i64 a0, .int .i64 a1, .int .i64 a2], false⟩) rfl) underlying91 sz90 rfl rfl (Nat.le_of_ble_eq_true rfl) (by decide) (by decide) rfl) <| wr_a rfl (a_callF en79 rfl (Ct.at 1 rfl (add64_1_ct (by omega)))) ?_
 rintro _ _ ⟨rfl, rfl⟩
 refine wr_rows (R1 := (⟨3, 1, A_1, u.length, c_2, ints .i64 b1, false⟩ :: ⟨93, 3, (some ⟨g, 0, none⟩), 1, 1, [.int .i64 a0, .int .i64 (a1 + 1), .int .i64 a2], false⟩ :: R)) rfl <| wr_nil <| wq <| wm rfl rfl <| wm rfl rfl <| wg rfl rfl <| wg rfl rfl <| wr_nil <| w_retR (R1 := (⟨3, 1, A_1, u.length, c_2, ints .i64 b1, false⟩ :: ⟨93, 3, (some ⟨g, 0, none⟩), 1, 1, [.int .i64 a0, .int .i64 (a1 + 1), .int .i64 a2], false⟩ :: R)) (fun _ h => h) ?_
 refine ⟨_, _, rfl, rfl, ?_⟩
 exact ⟨b1, _, _, rfl, hp_b1, hs_b1, rfl⟩

set_option maxRecDepth 100000 in
theorem crossSort2_ct {B : Nat} {w0 : World} {R : List Row} {g : Nat} {a0 a1 a2 : Int} {A_u : Option Addr} {n_u c_u : Nat} {u : List Int} (h_u : RdC B w0 R A_u n_u c_u 1 (ints .u8 u)) (hn_u : n_u = u.length) (bh_u : ByteL u) (hN : u.length ≤ 100000) (ha : 0 ≤ a2 ∧ a2 < 1000000) :
  Ct Tryz.prog 48 #[.pointer (some ⟨g, 0, none⟩), .int .i64 2, .slice A_u n_u c_u] B w0 (⟨93, 3, (some ⟨g, 0, none⟩), 1, 1, [.int .i64 a0, .int .i64 a1, .int .i64 a2], false⟩ :: R) (fun v R' => ∃ (b : List Int) (A : Option Addr) (c : Nat), v = .tuple #[.slice A u.length c, .int .i64 0] ∧ b.Perm (iota u.length) ∧ b.Pairwise (ordE u) ∧ R' = ⟨3, 1, A, u.length, c, ints .i64 b, false⟩ :: ⟨93, 3, (some ⟨g, 0, none⟩), 1, 1, [.int .i64 a0, .int .i64 a1, .int .i64 (a2 + 1)], false⟩ :: R) := by
 subst hn_u
 refine fn2 Tryz.func48 rfl rfl rfl ?_
 refine wq <| wg rfl rfl <| wg rfl rfl <| wr_nil <| w_seq <| wq <| wm rfl rfl <| wr_y rfl (y_ptrEq underlying52 rfl rfl) <| wm rfl rfl <| wr_yes rfl rfl <| wm rfl rfl <| wr_yes rfl rfl <| wr_y rfl (Yl.f (y_lt rfl rfl) (by decide)) ?_
 refine wr_y rfl (y_pickF rfl rfl) <| wm rfl rfl <| wr_yes rfl rfl <| wm rfl rfl <| wr_yes rfl rfl <| wr_y rfl (Yl.f (y_ge rfl rfl) (by decide)) <| wr_y rfl (y_pickF rfl rfl) <| wr_nil <| w_false rfl <| w_skip <| wq <| wr_y rfl (y_build (v := .agg #[.func (.func 76) #[] #[], .func (.func 77) #[] #[], .func (.func 78) #[] #[]]) rfl (fun w => by kernel_rfl)) <| wm rfl rfl <| wr_y rfl (y_ix (v := .func (.func 78) #[] #[]) rfl rfl (fun w => by kernel_rfl)) ?_
 refine wg rfl rfl <| wr_nil <| wq <| wm rfl rfl <| wm rfl rfl <| wr_a rfl (a_call en78 rfl rfl (Ct.fresh (fun w hw => bytes15_ct ((RdC.right h_u [_]) w hw) bh_u hN))) ?_
 rintro _ _ ⟨_, rfl, o1, A_1, c_2, rfl, hl_o1, hq_o1, rfl⟩
 refine wm rfl rfl <| wX rfl rfl rfl <| wX rfl rfl rfl <| wg rfl rfl <| wg rfl rfl <| wr_nil <| w_seq <| wq <| wm rfl rfl <| wr_y rfl (Yl.t (y_eq rfl rfl) (by decide)) <| wr_nil <| w_true rfl <| w_reg <| wm rfl rfl ?_
 refine wm rfl rfl <| wr_y rfl (y_nilCheck rfl) <| wr_y rfl (y_fieldAt (off := 0) (m := 0) underlying93 rfl sz91 rfl rfl rfl) <| wr_y rfl (y_indexIn (q := 2) (rdR 1 (r := ⟨93, 3, (some ⟨g, 0, none⟩), 1, 1, [.int .i64 a0, .int .i64 a1, .int .i64 a2], false⟩) rfl) underlying91 sz90 rfl rfl (Nat.le_of_ble_eq_true rfl) (by decide) (by decide) rfl) <| wr_a rfl (a_callF en79 rfl (Ct.at 1 rfl (add64_2_ct (by omega)))) ?_
 rintro _ _ ⟨rfl, rfl⟩
 refine wr_rows (R1 := (⟨3, 1, A_1, u.length, c_2, ints .i64 o1, false⟩ :: ⟨93, 3, (some ⟨g, 0, none⟩), 1, 1, [.int .i64 a0, .int .i64 a1, .int .i64 (a2 + 1)], false⟩ :: R)) rfl <| wr_nil <| wq <| wm rfl rfl <| wm rfl rfl <| wg rfl rfl <| wg rfl rfl <| wr_nil <| w_retR (R1 := (⟨3, 1, A_1, u.length, c_2, ints .i64 o1, false⟩ :: ⟨93, 3, (some ⟨g, 0, none⟩), 1, 1, [.int .i64 a0, .int .i64 a1, .int .i64 (a2 + 1)], false⟩ :: R)) (fun _ h => h) ?_
 refine ⟨_, _, rfl, rfl, ?_⟩
 obtain ⟨b, hb, hs⟩ := order_exists u
 obtain rfl := places hb hs hl_o1 hq_o1
 exact ⟨o1, _, _, rfl, hb, hs, rfl⟩

set_option maxRecDepth 100000 in
theorem crossRun_ct {B : Nat} {w0 : World} {R : List Row} {g : Nat} {a0 a1 a2 : Int} {A_u : Option Addr} {n_u c_u : Nat} {u : List Int} (h_u : RdC B w0 R A_u n_u c_u 1 (ints .u8 u)) (hn_u : n_u = u.length) (bh_u : ByteL u) (hN : u.length ≤ 100000) (ha : (0 ≤ a0 ∧ a0 < 1000000) ∧ (0 ≤ a1 ∧ a1 < 1000000) ∧ (0 ≤ a2 ∧ a2 < 1000000)) :
  Ct Tryz.prog 27 #[.pointer (some ⟨g, 0, none⟩), .slice A_u n_u c_u] B w0 (⟨93, 3, (some ⟨g, 0, none⟩), 1, 1, [.int .i64 a0, .int .i64 a1, .int .i64 a2], false⟩ :: R) (fun v R' => ∃ (b : List Int) (A A2 : Option Addr) (c c2 : Nat), v = .tuple #[.agg #[.slice A u.length c, .slice A2 u.length c2, .bool true], .int .i64 0] ∧ b.Perm (iota u.length) ∧ b.Pairwise (ordE u) ∧ R' = ⟨3, 1, A, u.length, c, ints .i64 b, false⟩ :: ⟨3, 1, A2, u.length, c2, ints .i64 (lcpV u b), false⟩ :: ⟨93, 3, (some ⟨g, 0, none⟩), 1, 1, [.int .i64 (a0 + 1), .int .i64 (a1 + 1), .int .i64 (a2 + 1)], false⟩ :: R) := by
 subst hn_u
 refine fnCT Tryz.func27 rfl rfl rfl underlying55 rfl sz55 ?_
 refine wq <| wr_a rfl (a_alloc (sz := 3) zz55 rfl) ?_
 rintro _ _ ⟨g_1, rfl, rfl⟩
 refine wr_rows (R1 := (⟨55, 3, (some ⟨g_1, 0, none⟩), 1, 1, [.slice none 0 0, .slice none 0 0, .bool false], false⟩ :: ⟨93, 3, (some ⟨g, 0, none⟩), 1, 1, [.int .i64 a0, .int .i64 a1, .int .i64 a2], false⟩ :: R)) rfl <| wg rfl rfl <| wr_nil <| wq <| wr_a rfl (a_alloc (sz := 3) zz94 rfl) ?_
 rintro _ _ ⟨g_2, rfl, rfl⟩
 refine wr_rows (R1 := (⟨94, 3, (some ⟨g_2, 0, none⟩), 1, 1, [.slice none 0 0, .slice none 0 0, .slice none 0 0], false⟩ :: ⟨55, 3, (some ⟨g_1, 0, none⟩), 1, 1, [.slice none 0 0, .slice none 0 0, .bool false], false⟩ :: ⟨93, 3, (some ⟨g, 0, none⟩), 1, 1, [.int .i64 a0, .int .i64 a1, .int .i64 a2], false⟩ :: R)) rfl <| wr_nil <| w_seq <| wq <| wm rfl rfl <| wr_nil <| w_block <| w_rounds 4 <| w_round <| wq <| wr_y rfl (Yl.t (y_lt rfl rfl) (by decide)) <| wr_nil <| w_seq ?_
 refine w_true rfl <| w_skip <| w_seq <| w_block <| wq <| wm rfl rfl <| wg rfl rfl <| wr_nil <| wq <| wm rfl rfl <| wm rfl rfl <| wm rfl rfl <| wr_a rfl (a_callF en48 rfl (Ct.sub (R1 := (⟨93, 3, (some ⟨g, 0, none⟩), 1, 1, [.int .i64 a0, .int .i64 a1, .int .i64 a2], false⟩ :: ⟨94, 3, (some ⟨g_2, 0, none⟩), 1, 1, [.slice none 0 0, .slice none 0 0, .slice none 0 0], false⟩ :: ⟨55, 3, (some ⟨g_1, 0, none⟩), 1, 1, [.slice none 0 0, .slice none 0 0, .bool false], false⟩ :: R)) (fun _ h => h.selR (F := [_, _, _]) (F' := [_, _, _]) [2, 0, 1] (by decide) rfl) (crossSort0_ct (RdC.right h_u [_, _]) (by first | rfl | (simp; done) | omega) bh_u hN (by omega)))) ?_
 rintro _ _ ⟨b0, A_3, c_4, rfl, hp_b0, hs_b0, rfl⟩
 refine wm rfl rfl <| wX rfl rfl rfl <| wX rfl rfl rfl <| wg rfl rfl <| wg rfl rfl <| wr_nil <| w_seq <| wq <| wm rfl rfl <| wr_y rfl (Yl.f (y_ne rfl rfl) (by decide)) <| wr_nil <| w_false rfl <| w_skip <| w_reg ?_
 refine wm rfl rfl <| wm rfl rfl <| wr_y rfl (y_indexIn (q := 0) (rdR 2 (r := ⟨94, 3, (some ⟨g_2, 0, none⟩), 1, 1, [.slice none 0 0, .slice none 0 0, .slice none 0 0], false⟩) rfl) underlying94 sz24 rfl rfl (Nat.le_of_ble_eq_true rfl) (by decide) (by decide) rfl) <| wr_n (a_storeAt 2 rfl rfl rfl sz24 rfl rfl rfl rfl (Nat.le_of_ble_eq_true rfl)) ?_
 rintro _ _ rfl
 refine wr_rows (R1 := (⟨3, 1, A_3, u.length, c_4, ints .i64 b0, false⟩ :: ⟨93, 3, (some ⟨g, 0, none⟩), 1, 1, [.int .i64 (a0 + 1), .int .i64 a1, .int .i64 a2], false⟩ :: ⟨94, 3, (some ⟨g_2, 0, none⟩), 1, 1, [.slice A_3 u.length c_4, .slice none 0 0, .slice none 0 0], false⟩ :: ⟨55, 3, (some ⟨g_1, 0, none⟩), 1, 1, [.slice none 0 0, .slice none 0 0, .bool false], false⟩ :: R)) rfl <| wr_nil <| w_reg <| wr_y rfl (Yl.is (y_addI rfl rfl (by omega)) rfl) <| wm rfl rfl <| wr_nil <| w_round <| wq <| wr_y rfl (Yl.t (y_lt rfl rfl) (by decide)) <| wr_nil <| w_seq <| w_true rfl <| w_skip <| w_seq ?_
 refine w_block <| wq <| wm rfl rfl <| wg rfl rfl <| wr_nil <| wq <| wm rfl rfl <| wm rfl rfl <| wm rfl rfl <| wr_a rfl (a_callF en48 rfl (Ct.sub (R1 := (⟨93, 3, (some ⟨g, 0, none⟩), 1, 1, [.int .i64 (a0 + 1), .int .i64 a1, .int .i64 a2], false⟩ :: ⟨3, 1, A_3, u.length, c_4, ints .i64 b0, false⟩ :: ⟨94, 3, (some ⟨g_2, 0, none⟩), 1, 1, [.slice A_3 u.length c_4, .slice none 0 0, .slice none 0 0], false⟩ :: ⟨55, 3, (some ⟨g_1, 0, none⟩), 1, 1, [.slice none 0 0, .slice none 0 0, .bool false], false⟩ :: R)) (fun _ h => h.selR (F := [_, _, _, _]) (F' := [_, _, _, _]) [1, 0, 2, 3] (by decide) rfl) (crossSort1_ct (RdC.right h_u [_, _, _]) (by first | rfl | (simp; done) | omega) bh_u hN (by omega)))) ?_
 rintro _ _ ⟨b1, A_6, c_7, rfl, hp_b1, hs_b1, rfl⟩
 refine wm rfl rfl <| wX rfl rfl rfl <| wX rfl rfl rfl <| wg rfl rfl <| wg rfl rfl <| wr_nil <| w_seq <| wq <| wm rfl rfl <| wr_y rfl (Yl.f (y_ne rfl rfl) (by decide)) <| wr_nil <| w_false rfl <| w_skip <| w_reg ?_
 refine wm rfl rfl <| wm rfl rfl <| wr_y rfl (y_indexIn (q := 1) (rdR 3 (r := ⟨94, 3, (some ⟨g_2, 0, none⟩), 1, 1, [.slice A_3 u.length c_4, .slice none 0 0, .slice none 0 0], false⟩) rfl) underlying94 sz24 rfl rfl (Nat.le_of_ble_eq_true rfl) (by decide) (by decide) rfl) <| wr_n (a_storeAt 3 rfl rfl rfl sz24 rfl rfl rfl rfl (Nat.le_of_ble_eq_true rfl)) ?_
 rintro _ _ rfl
 refine wr_rows (R1 := (⟨3, 1, A_6, u.length, c_7, ints .i64 b1, false⟩ :: ⟨93, 3, (some ⟨g, 0, none⟩), 1, 1, [.int .i64 (a0 + 1), .int .i64 (a1 + 1), .int .i64 a2], false⟩ :: ⟨3, 1, A_3, u.length, c_4, ints .i64 b0, false⟩ :: ⟨94, 3, (some ⟨g_2, 0, none⟩), 1, 1, [.slice A_3 u.length c_4, .slice A_6 u.length c_7, .slice none 0 0], false⟩ :: ⟨55, 3, (some ⟨g_1, 0, none⟩), 1, 1, [.slice none 0 0, .slice none 0 0, .bool false], false⟩ :: R)) rfl <| wr_nil <| w_reg <| wr_y rfl (Yl.is (y_addI rfl rfl (by omega)) rfl) <| wm rfl rfl <| wr_nil <| w_round <| wq <| wr_y rfl (Yl.t (y_lt rfl rfl) (by decide)) <| wr_nil <| w_seq <| w_true rfl <| w_skip <| w_seq ?_
 refine w_block <| wq <| wm rfl rfl <| wg rfl rfl <| wr_nil <| wq <| wm rfl rfl <| wm rfl rfl <| wm rfl rfl <| wr_a rfl (a_callF en48 rfl (Ct.sub (R1 := (⟨93, 3, (some ⟨g, 0, none⟩), 1, 1, [.int .i64 (a0 + 1), .int .i64 (a1 + 1), .int .i64 a2], false⟩ :: ⟨3, 1, A_6, u.length, c_7, ints .i64 b1, false⟩ :: ⟨3, 1, A_3, u.length, c_4, ints .i64 b0, false⟩ :: ⟨94, 3, (some ⟨g_2, 0, none⟩), 1, 1, [.slice A_3 u.length c_4, .slice A_6 u.length c_7, .slice none 0 0], false⟩ :: ⟨55, 3, (some ⟨g_1, 0, none⟩), 1, 1, [.slice none 0 0, .slice none 0 0, .bool false], false⟩ :: R)) (fun _ h => h.selR (F := [_, _, _, _, _]) (F' := [_, _, _, _, _]) [1, 0, 2, 3, 4] (by decide) rfl) (crossSort2_ct (RdC.right h_u [_, _, _, _]) (by first | rfl | (simp; done) | omega) bh_u hN (by omega)))) ?_
 rintro _ _ ⟨b2, A_9, c_10, rfl, hp_b2, hs_b2, rfl⟩
 refine wm rfl rfl <| wX rfl rfl rfl <| wX rfl rfl rfl <| wg rfl rfl <| wg rfl rfl <| wr_nil <| w_seq <| wq <| wm rfl rfl <| wr_y rfl (Yl.f (y_ne rfl rfl) (by decide)) <| wr_nil <| w_false rfl <| w_skip <| w_reg ?_
 refine wm rfl rfl <| wm rfl rfl <| wr_y rfl (y_indexIn (q := 2) (rdR 4 (r := ⟨94, 3, (some ⟨g_2, 0, none⟩), 1, 1, [.slice A_3 u.length c_4, .slice A_6 u.length c_7, .slice none 0 0], false⟩) rfl) underlying94 sz24 rfl rfl (Nat.le_of_ble_eq_true rfl) (by decide) (by decide) rfl) <| wr_n (a_storeAt 4 rfl rfl rfl sz24 rfl rfl rfl rfl (Nat.le_of_ble_eq_true rfl)) ?_
 rintro _ _ rfl
 refine wr_rows (R1 := (⟨3, 1, A_9, u.length, c_10, ints .i64 b2, false⟩ :: ⟨93, 3, (some ⟨g, 0, none⟩), 1, 1, [.int .i64 (a0 + 1), .int .i64 (a1 + 1), .int .i64 (a2 + 1)], false⟩ :: ⟨3, 1, A_6, u.length, c_7, ints .i64 b1, false⟩ :: ⟨3, 1, A_3, u.length, c_4, ints .i64 b0, false⟩ :: ⟨94, 3, (some ⟨g_2, 0, none⟩), 1, 1, [.slice A_3 u.length c_4, .slice A_6 u.length c_7, .slice A_9 u.length c_10], false⟩ :: ⟨55, 3, (some ⟨g_1, 0, none⟩), 1, 1, [.slice none 0 0, .slice none 0 0, .bool false], false⟩ :: R)) rfl <| wr_nil <| w_reg <| wr_y rfl (Yl.is (y_addI rfl rfl (by omega)) rfl) <| wm rfl rfl <| wr_nil <| w_round <| wq <| wr_y rfl (Yl.f (y_lt rfl rfl) (by decide)) <| wr_nil <| w_seq <| w_false rfl <| w_exit <| w_seq ?_
 refine w_reg <| wm rfl rfl <| wr_y rfl (y_indexIn (q := 0) (rdR 4 (r := ⟨94, 3, (some ⟨g_2, 0, none⟩), 1, 1, [.slice A_3 u.length c_4, .slice A_6 u.length c_7, .slice A_9 u.length c_10], false⟩) rfl) underlying94 sz24 rfl rfl (Nat.le_of_ble_eq_true rfl) (by decide) (by decide) rfl) <| wr_y rfl (y_ldIn (rdR 4 (r := ⟨94, 3, (some ⟨g_2, 0, none⟩), 1, 1, [.slice A_3 u.length c_4, .slice A_6 u.length c_7, .slice A_9 u.length c_10], false⟩) rfl) underlying24 rfl rfl rfl) <| wr_a rfl (a_callF en49 rfl (Ct.fresh (fun w hw => lcp17_ct ((RdC.right h_u [_, _, _, _, _, _]) w hw) ((rdr 3 rfl) w hw) hp_b0 hs_b0 (by omega)))) ?_
 rintro _ _ ⟨_, rfl, A_12, c_13, rfl, rfl⟩
 refine wm rfl rfl <| wX rfl rfl rfl <| wX rfl rfl rfl <| wg rfl rfl <| wg rfl rfl <| wr_nil <| wq <| wm rfl rfl <| wr_y rfl (y_indexIn (q := 0) (rdR 5 (r := ⟨94, 3, (some ⟨g_2, 0, none⟩), 1, 1, [.slice A_3 u.length c_4, .slice A_6 u.length c_7, .slice A_9 u.length c_10], false⟩) rfl) underlying94 sz24 rfl rfl (Nat.le_of_ble_eq_true rfl) (by decide) (by decide) rfl) <| wr_y rfl (y_ldIn (rdR 5 (r := ⟨94, 3, (some ⟨g_2, 0, none⟩), 1, 1, [.slice A_3 u.length c_4, .slice A_6 u.length c_7, .slice A_9 u.length c_10], false⟩) rfl) underlying24 rfl rfl rfl) <| wr_a rfl (a_callF en50 rfl (Ct.fresh (fun w hw => lcp18_ct ((RdC.right h_u [_, _, _, _, _, _, _]) w hw) ((rdr 4 rfl) w hw) hp_b0 hs_b0 (by omega)))) ?_
 rintro _ _ ⟨_, rfl, A_15, c_16, rfl, rfl⟩
 refine wm rfl rfl <| wX rfl rfl rfl <| wX rfl rfl rfl <| wg rfl rfl <| wg rfl rfl <| wr_nil <| wq <| wr_y rfl (y_indexIn (q := 0) (rdR 6 (r := ⟨94, 3, (some ⟨g_2, 0, none⟩), 1, 1, [.slice A_3 u.length c_4, .slice A_6 u.length c_7, .slice A_9 u.length c_10], false⟩) rfl) underlying94 sz24 rfl rfl (Nat.le_of_ble_eq_true rfl) (by decide) (by decide) rfl) <| wr_y rfl (y_ldIn (rdR 6 (r := ⟨94, 3, (some ⟨g_2, 0, none⟩), 1, 1, [.slice A_3 u.length c_4, .slice A_6 u.length c_7, .slice A_9 u.length c_10], false⟩) rfl) underlying24 rfl rfl rfl) <| wr_y rfl (y_indexIn (q := 1) (rdR 6 (r := ⟨94, 3, (some ⟨g_2, 0, none⟩), 1, 1, [.slice A_3 u.length c_4, .slice A_6 u.length c_7, .slice A_9 u.length c_10], false⟩) rfl) underlying94 sz24 rfl rfl (Nat.le_of_ble_eq_true rfl) (by decide) (by decide) rfl) <| wr_y rfl (y_ldIn (rdR 6 (r := ⟨94, 3, (some ⟨g_2, 0, none⟩), 1, 1, [.slice A_3 u.length c_4, .slice A_6 u.length c_7, .slice A_9 u.length c_10], false⟩) rfl) underlying24 rfl rfl rfl) <| wr_a rfl (a_callF en51 rfl (Ct.quiet (fun w hw => equalI_ct ((rdr 5 rfl) w hw) ((rdr 4 rfl) w hw) (by rw [hp_b0.length_eq, iota_len]; omega)))) ?_
 rintro _ _ ⟨rfl, rfl⟩
 refine wr_setT 51 rfl (one_orderE hp_b0 hp_b1 hs_b0 hs_b1) <| wm rfl rfl <| wr_yes rfl rfl <| wr_y rfl (y_indexIn (q := 0) (rdR 6 (r := ⟨94, 3, (some ⟨g_2, 0, none⟩), 1, 1, [.slice A_3 u.length c_4, .slice A_6 u.length c_7, .slice A_9 u.length c_10], false⟩) rfl) underlying94 sz24 rfl rfl (Nat.le_of_ble_eq_true rfl) (by decide) (by decide) rfl) <| wr_yes rfl rfl <| wr_y rfl (y_ldIn (rdR 6 (r := ⟨94, 3, (some ⟨g_2, 0, none⟩), 1, 1, [.slice A_3 u.length c_4, .slice A_6 u.length c_7, .slice A_9 u.length c_10], false⟩) rfl) underlying24 rfl rfl rfl) <| wr_yes rfl rfl <| wr_y rfl (y_indexIn (q := 2) (rdR 6 (r := ⟨94, 3, (some ⟨g_2, 0, none⟩), 1, 1, [.slice A_3 u.length c_4, .slice A_6 u.length c_7, .slice A_9 u.length c_10], false⟩) rfl) underlying94 sz24 rfl rfl (Nat.le_of_ble_eq_true rfl) (by decide) (by decide) rfl) <| wr_yes rfl rfl <| wr_y rfl (y_ldIn (rdR 6 (r := ⟨94, 3, (some ⟨g_2, 0, none⟩), 1, 1, [.slice A_3 u.length c_4, .slice A_6 u.length c_7, .slice A_9 u.length c_10], false⟩) rfl) underlying24 rfl rfl rfl) <| wr_yes rfl rfl <| wr_a rfl (a_callF en51 rfl (Ct.quiet (fun w hw => equalI_ct ((rdr 5 rfl) w hw) ((rdr 2 rfl) w hw) (by rw [hp_b0.length_eq, iota_len]; omega)))) ?_
 rintro _ _ ⟨rfl, rfl⟩
 refine wr_setT 57 rfl (one_orderE hp_b0 hp_b2 hs_b0 hs_b2) <| wr_y rfl (y_pickT rfl rfl) <| wm rfl rfl <| wr_yes rfl rfl <| wm rfl rfl <| wr_yes rfl rfl <| wm rfl rfl <| wr_yes rfl rfl <| wr_a rfl (a_callF en51 rfl (Ct.quiet (fun w hw => equalI_ct ((rdr 1 rfl) w hw) ((rdr 0 rfl) w hw) (by rw [lcpV_len, hp_b0.length_eq, iota_len]; omega)))) ?_
 rintro _ _ ⟨rfl, rfl⟩
 refine wr_setT 62 rfl (rfl) <| wr_y rfl (y_pickT rfl rfl) <| wg rfl rfl <| wr_nil <| w_seq <| w_regd mixed <| wd_y 0 rfl (by kernel_rfl) rfl (y_indexIn (q := 0) (rdR 6 (r := ⟨94, 3, (some ⟨g_2, 0, none⟩), 1, 1, [.slice A_3 u.length c_4, .slice A_6 u.length c_7, .slice A_9 u.length c_10], false⟩) rfl) underlying94 sz24 rfl rfl (Nat.le_of_ble_eq_true rfl) (by decide) (by decide) rfl) <| wd_y 1 rfl (by kernel_rfl) rfl (y_ldIn (rdR 6 (r := ⟨94, 3, (some ⟨g_2, 0, none⟩), 1, 1, [.slice A_3 u.length c_4, .slice A_6 u.length c_7, .slice A_9 u.length c_10], false⟩) rfl) underlying24 rfl rfl rfl) <| wd_y 2 rfl (by kernel_rfl) rfl (y_move rfl) <| wd_y 3 rfl (by kernel_rfl) rfl (y_move rfl) <| wd_y 4 rfl (by kernel_rfl) rfl (y_move rfl) <| wd_yg 5 rfl (by kernel_rfl) rfl rfl rfl (y_move rfl) <| wd_yg 6 rfl (by kernel_rfl) rfl rfl rfl (y_indexIn (q := 0) (rdR 6 (r := ⟨94, 3, (some ⟨g_2, 0, none⟩), 1, 1, [.slice A_3 u.length c_4, .slice A_6 u.length c_7, .slice A_9 u.length c_10], false⟩) rfl) underlying94 sz24 rfl rfl (Nat.le_of_ble_eq_true rfl) (by decide) (by decide) rfl) <| wd_yg 7 rfl (by kernel_rfl) rfl rfl rfl (y_ldIn (rdR 6 (r := ⟨94, 3, (some ⟨g_2, 0, none⟩), 1, 1, [.slice A_3 u.length c_4, .slice A_6 u.length c_7, .slice A_9 u.length c_10], false⟩) rfl) underlying24 rfl rfl rfl) <| wd_yg 8 rfl (by kernel_rfl) rfl rfl rfl (y_move rfl) ?_
 refine wd_ag 9 rfl (by kernel_rfl) rfl rfl rfl (a_callF en52 rfl (Ct.quiet (fun w hw => lcp19_ct ((RdC.right h_u [_, _, _, _, _, _, _, _]) w hw) ((rdr 5 rfl) w hw) ((rdr 1 rfl) w hw) hp_b0 hs_b0 (by omega) rfl))) ?_
 rintro _ _ ⟨rfl, rfl⟩
 refine ⟨.inr fun _ h => h, ?_⟩
 refine wd_as (v := .bool true) (congrArg Value.bool (decide_eq_true (trivial))) <| wd_y 10 rfl (by kernel_rfl) rfl (y_pickT rfl rfl) <| wd_y 11 rfl (by kernel_rfl) rfl (y_build (v := .agg #[.slice A_3 u.length c_4, .slice A_12 ((b0).length) c_13, .bool true]) rfl (fun w => by kernel_rfl)) <| wd_n 12 rfl (by kernel_rfl) (a_storeAll (vs := [.slice A_3 u.length c_4, .slice A_12 ((b0).length) c_13, .bool true]) 7 rfl sz55 rfl rfl rfl (by intro v hv; simp at hv; rcases hv with rfl | rfl | rfl <;> rfl) rfl) ?_
 rintro _ _ rfl
 refine ⟨.inl (by kernel_rfl), ?_⟩
 refine wd_rows (R1 := (⟨3, 1, A_15, ((b0).length), c_16, ints .i64 (lcpV u b0), false⟩ :: ⟨3, 1, A_12, ((b0).length), c_13, ints .i64 (lcpV u b0), false⟩ :: ⟨3, 1, A_9, u.length, c_10, ints .i64 b2, false⟩ :: ⟨93, 3, (some ⟨g, 0, none⟩), 1, 1, [.int .i64 (a0 + 1), .int .i64 (a1 + 1), .int .i64 (a2 + 1)], false⟩ :: ⟨3, 1, A_6, u.length, c_7, ints .i64 b1, false⟩ :: ⟨3, 1, A_3, u.length, c_4, ints .i64 b0, false⟩ :: ⟨94, 3, (some ⟨g_2, 0, none⟩), 1, 1, [.slice A_3 u.length c_4, .slice A_6 u.length c_7, .slice A_9 u.length c_10], false⟩ :: ⟨55, 3, (some ⟨g_1, 0, none⟩), 1, 1, [.slice A_3 u.length c_4, .slice A_12 ((b0).length) c_13, .bool true], false⟩ :: R)) rfl <| wd_y 13 rfl (by kernel_rfl) rfl (y_assign rfl) <| wd_nil (by kernel_rfl) <| w_ret ?_
 refine ⟨_, 7, _, rfl, rfl, rfl, rfl, rfl, rfl, rfl, _, rfl, (⟨3, 1, A_3, u.length, c_4, ints .i64 b0, false⟩ :: ⟨3, 1, A_12, ((b0).length), c_13, ints .i64 (lcpV u b0), false⟩ :: ⟨93, 3, (some ⟨g, 0, none⟩), 1, 1, [.int .i64 (a0 + 1), .int .i64 (a1 + 1), .int .i64 (a2 + 1)], false⟩ :: R), fun _ h => h.selR (F := [_, _, _, _, _, _, _, _]) (F' := [_, _, _]) [5, 1, 3] (by decide) rfl, ?_⟩
 have e : b0.length = u.length := by rw [hp_b0.length_eq, iota_len]
 rw [e]
 exact ⟨b0, _, _, _, _, rfl, hp_b0, hs_b0, rfl⟩

end Go.Proofs.YtdfcnalkdlifiaaGreat

/-! ## F8 -/
namespace Go.Proofs.YtdfcnalkdlifiaaGreat
open Go Go.Eng Go.Pure
open Tryz
set_option linter.unusedVariables false
set_option maxRecDepth 100000 in
theorem turn4_ct {w : World} {A_u : Option Addr} {n_u c_u : Nat} {u : List Int} {i : Int} (h_u : Rd w A_u n_u c_u 1 (ints .u8 u)) (hi : 0 ≤ i ∧ i ≤ u.length) (hN : u.length ≤ 1000000) :
  Ct Tryz.prog 44 #[.slice A_u n_u c_u, .int .i64 i] w.heap.size w [] (fun v R' => ∃ A c, v = .slice A (u.drop i.toNat ++ u.take i.toNat).length c ∧ R' = [⟨5, 1, A, (u.drop i.toNat ++ u.take i.toNat).length, c, ints .u8 (u.drop i.toNat ++ u.take i.toNat), false⟩]) := by
 obtain rfl := h_u.lenI
 refine fn1 Tryz.func44 rfl rfl rfl ?_
 have m_u := h_u.max
 refine wq <| wg rfl rfl <| wr_nil <| w_seq <| w_regd mixed <| wd_y 1 rfl (by kernel_rfl) rfl (y_move rfl) <| wd_y 2 rfl (by kernel_rfl) rfl (y_move rfl) <| wd_y 3 rfl (by kernel_rfl) rfl (y_sliceFrom underlying23 sz5 rfl rfl (by omega) (by omega)) <| wd_y 5 rfl (by kernel_rfl) rfl (y_move rfl) <| wd_y 6 rfl (by kernel_rfl) rfl (y_move rfl) <| wd_y 7 rfl (by kernel_rfl) rfl (y_sliceTo underlying23 sz5 rfl rfl (h_u.c _) (by omega) (by omega)) <| wd_a 0 rfl (by kernel_rfl) rfl (a_litI .u8 [] underlying23 zs5 rfl rfl rfl) ?_
 rintro _ _ ⟨g_2, rfl, rfl⟩
 refine ⟨.inr fun _ h => h.right (R' := [_]), ?_⟩
 refine wd_a 4 rfl (by kernel_rfl) rfl (a_appendI 0 rfl underlying23 zb5 rfl rfl rfl (RdC.fromI (h_u.c _) (by omega)) (by omega)) ?_
 rintro _ _ ⟨A_3, c_4, rfl, rfl⟩
 refine ⟨.inl (by kernel_rfl), ?_⟩
 refine wd_rows (R1 := [⟨5, 1, A_3, (0 + (u.length - (i).toNat)), c_4, ints .u8 (([]) ++ ((u).drop (i).toNat)), false⟩]) rfl <| wd_as (v := .slice A_3 (0 + (u.length - (i).toNat)) c_4) rfl <| wd_a 8 rfl (by kernel_rfl) rfl (a_appendI 0 rfl underlying23 zb5 rfl rfl rfl (RdC.toI (h_u.c _) (by omega)) (by omega)) ?_
 rintro _ _ ⟨A_5, c_6, rfl, rfl⟩
 refine ⟨.inl (by kernel_rfl), ?_⟩
 refine wd_rows (R1 := [⟨5, 1, A_5, ((0 + (u.length - (i).toNat)) + ((i).toNat)), c_6, ints .u8 ((([]) ++ ((u).drop (i).toNat)) ++ ((u).take (i).toNat)), false⟩]) rfl <| wd_as (v := .slice A_5 ((0 + (u.length - (i).toNat)) + ((i).toNat)) c_6) rfl <| wd_y 9 rfl (by kernel_rfl) rfl (y_assign rfl) <| wd_nil (by kernel_rfl) <| w_retR (R1 := [⟨5, 1, A_5, ((0 + (u.length - (i).toNat)) + ((i).toNat)), c_6, ints .u8 ((([]) ++ ((u).drop (i).toNat)) ++ ((u).take (i).toNat)), false⟩]) (fun _ h => h.sel [0] (by decide) rfl) ?_
 refine ⟨_, rfl, ?_⟩
 have e : (0 + (u.length - i.toNat) + i.toNat) = (u.drop i.toNat ++ u.take i.toNat).length := by rw [List.length_append, List.length_drop, List.length_take]; omega
 simp only [List.nil_append, e]
 exact ⟨_, _, rfl, rfl⟩

end Go.Proofs.YtdfcnalkdlifiaaGreat

/-! ## Q36 -/
namespace Go.Pure
open Go Go.Eng
theorem cmpL_same : ∀ {a b : List Int}, a.length = b.length → (cmpL a b < 0 ↔ ∃ d, d < a.length ∧ (∀ e, e < d → lt a e = lt b e) ∧ lt a d < lt b d)
 | [], [], _ => by simp [cmpL]
 | x :: a, y :: b, h => by
  have ih := cmpL_same (a := a) (b := b) (by simpa using h)
  rw [cmpL]
  rcases Int.lt_trichotomy x y with c | c | c
  ·rw [if_pos c]
   exact ⟨fun _ => ⟨0, by simp, fun e he => by omega, c⟩, fun _ => by omega⟩
  ·subst c
   rw [if_neg (by omega), if_neg (by omega), ih]
   constructor
   ·rintro ⟨d, h1, h2, h3⟩
    refine ⟨d + 1, by simpa using h1, fun e he => ?_, h3⟩
    cases e with
    | zero => rfl
    | succ e => exact h2 e (by omega)
   ·rintro ⟨d, h1, h2, h3⟩
    cases d with
    | zero => exact absurd h3 (by simp [lt])
    | succ d => exact ⟨d, by simpa using h1, fun e he => h2 (e + 1) (by omega), h3⟩
  ·rw [if_neg (by omega), if_pos c]
   refine ⟨fun h => by omega, ?_⟩
   rintro ⟨d, h1, h2, h3⟩
   cases d with
   | zero => have : x < y := h3; omega
   | succ d => have : x = y := h2 0 (by omega); omega
section
variable {s : List Int}
/-- A rotation, without end. -/
def rot (s : List Int) (r d : Nat) : Int := om s (r + d)
def turnS (s : List Int) (r : Int) : List Int := s.drop r.toNat ++ s.take r.toNat
theorem turnS_len (s : List Int) (r : Int) : (turnS s r).length = s.length := by unfold turnS; rw [List.length_append, List.length_drop, List.length_take]; omega
theorem turnS_at {r d : Nat} (hr : r ≤ s.length) (hd : d < s.length) : lt (turnS s r) d = rot s r d := by
 unfold turnS lt rot om
 rw [Int.toNat_natCast]
 rcases Nat.lt_or_ge (r + d) s.length with g | g
 ·rw [List.getD_eq_getElem?_getD, List.getElem?_append_left (by rw [List.length_drop]; omega), List.getElem?_drop, Nat.mod_eq_of_lt g, ← List.getD_eq_getElem?_getD]
 ·rw [List.getD_eq_getElem?_getD, List.getElem?_append_right (by rw [List.length_drop]; omega), List.length_drop, List.getElem?_take_of_lt (by omega), show (r + d) % s.length = d - (s.length - r) by rw [Nat.mod_eq_sub_mod g, Nat.mod_eq_of_lt (by omega)]; omega, ← List.getD_eq_getElem?_getD]
theorem rot_per (r : Nat) : Per (rot s r) s.length := fun d => by
 unfold rot
 rw [← Nat.add_assoc]
 exact om_per s _
theorem rot_mod (r : Nat) : rot s (r % s.length) = rot s r := by
 funext d
 unfold rot om
 rw [Nat.mod_add_mod]
theorem rot_same {r q : Nat} (hn : 0 < s.length) (h : ∀ d, d < s.length → rot s r d = rot s q d) : rot s r = rot s q := by
 funext d
 rw [← (rot_per r).mod d, ← (rot_per q).mod d]
 exact h _ (Nat.mod_lt _ hn)
theorem rot_lt {r q : Nat} (hr : r ≤ s.length) (hq : q ≤ s.length) : cmpL (turnS s r) (turnS s q) < 0 ↔ Lt (rot s r) (rot s q) := by
 rw [cmpL_same (by rw [turnS_len, turnS_len]), turnS_len]
 constructor
 ·rintro ⟨d, h1, h2, h3⟩
  refine ⟨d, fun e he => ?_, ?_⟩
  ·rw [← turnS_at hr (by omega), ← turnS_at hq (by omega)]; exact h2 e he
  ·rw [← turnS_at hr h1, ← turnS_at hq h1]; exact h3
 ·rintro ⟨d, h2, h3⟩
  rcases Nat.lt_or_ge d s.length with g | g
  ·refine ⟨d, g, fun e he => ?_, ?_⟩
   ·rw [turnS_at hr (by omega), turnS_at hq (by omega)]; exact h2 e he
   ·rw [turnS_at hr g, turnS_at hq g]; exact h3
  ·exfalso
   rcases Nat.eq_zero_or_pos s.length with z | z
   ·have : ∀ r d, rot s r d = 0 := fun r d => by
     unfold rot om
     rw [List.eq_nil_of_length_eq_zero z]; rfl
    rw [this, this] at h3; omega
   ·have := rot_same z fun e he => h2 e (by omega)
    rw [this] at h3; omega
/-- The first rotation that is not more than any. -/
structure FL (s : List Int) (b : Nat) : Prop where
 lt : b < s.length
 le : ∀ r, r < s.length → ¬ Lt (rot s r) (rot s b)
 first : ∀ r, r < b → Lt (rot s b) (rot s r)
theorem FL.any {b : Nat} (h : FL s b) (r : Nat) : ¬ Lt (rot s r) (rot s b) := by
 rw [← rot_mod r]
 exact h.le _ (Nat.mod_lt _ (by have := h.lt; omega))
theorem FL.one {b c : Nat} (h : FL s b) (g : FL s c) : b = c := by
 rcases Nat.lt_trichotomy b c with a | a | a
 ·exact absurd (g.first b a) (h.any c)
 ·exact a
 ·exact absurd (h.first c a) (g.any b)
/-- As it is found one by one. -/
def lrotK (s : List Int) : Nat → Nat
 | 0 => 0
 | r + 1 => if cmpL (turnS s r) (turnS s (lrotK s r)) < 0 then r else lrotK s r
theorem lrotK_ok : ∀ n : Nat, 0 < n → n ≤ s.length → lrotK s n < n ∧ (∀ r, r < n → ¬ Lt (rot s r) (rot s (lrotK s n))) ∧ ∀ r, r < lrotK s n → Lt (rot s (lrotK s n)) (rot s r)
 | 1, _, h => by
  have e : lrotK s 1 = 0 := by
   rw [lrotK, lrotK]
   split <;> rfl
  rw [e]
  exact ⟨by omega, fun r hr => by obtain rfl : r = 0 := (by omega); exact fun h => h.asymm h, fun r hr => by omega⟩
 | n + 2, _, h => by
  have ih := lrotK_ok (n + 1) (by omega) (by omega)
  rw [lrotK]
  split
  ·rename_i c
   rw [rot_lt (by omega) (by omega)] at c
   refine ⟨by omega, fun r hr => ?_, fun r hr => ?_⟩
   ·rcases Nat.lt_or_ge r (n + 1) with g | g
    ·exact fun hlt => ih.2.1 r g (hlt.trans c)
    ·obtain rfl : r = n + 1 := by omega
     exact fun h => h.asymm h
   ·rcases lt_tri (rot s (n + 1)) (rot s r) with a | a | a
    ·exact a
    ·exact absurd (by rw [← funext a]; exact c) (ih.2.1 r hr)
    ·exact absurd (a.trans c) (ih.2.1 r hr)
  ·rename_i c
   rw [rot_lt (by omega) (by omega)] at c
   refine ⟨by omega, fun r hr => ?_, ih.2.2⟩
   rcases Nat.lt_or_ge r (n + 1) with g | g
   ·exact ih.2.1 r g
   ·obtain rfl : r = n + 1 := by omega
    exact c
def lrot (s : List Int) : Int := lrotK s s.length
theorem lrot_FL (hn : 0 < s.length) : FL s (lrotK s s.length) := by
 have h := lrotK_ok (s := s) s.length hn (Nat.le_refl _)
 exact ⟨h.1, h.2.1, h.2.2⟩
theorem lrot_bd (s : List Int) : 0 ≤ lrot s ∧ lrot s ≤ s.length ∧ (0 < s.length → lrot s < s.length) := by
 unfold lrot
 rcases Nat.eq_zero_or_pos s.length with z | z
 ·rw [z]; exact ⟨by omega, by show ((0 : Nat) : Int) ≤ _; omega, fun h => by omega⟩
 ·have := (lrot_FL z).lt
  omega
/-- Two places, and how much they have alike. -/
structure LA (s : List Int) (b : Nat) (i j k : Int) : Prop where
 i0 : 0 ≤ i
 j0 : 0 ≤ j
 k0 : 0 ≤ k
 ne : i ≠ j
 agr : ∀ e : Nat, (e : Int) < k → rot s i.toNat e = rot s j.toNat e
 hb : (b : Int) = i ∨ (b : Int) = j ∨ (i < b ∧ j < b)
theorem LA.init (b : Nat) : LA s b 0 1 0 := ⟨by omega, by omega, by omega, by omega, fun e he => by omega, by omega⟩
variable {b : Nat} {i j k : Int}
theorem LA.swap (h : LA s b i j k) : LA s b j i k := ⟨h.j0, h.i0, h.k0, h.ne.symm, fun e he => (h.agr e he).symm, by have := h.hb; omega⟩
theorem LA.eq (h : LA s b i j k) (he : rot s i.toNat k.toNat = rot s j.toNat k.toNat) : LA s b i j (k + 1) :=
 ⟨h.i0, h.j0, by have := h.k0; omega, h.ne, fun e he' => by
  rcases Int.lt_or_le e k with g | g
  ·exact h.agr e g
  ·have := h.k0
   obtain rfl : e = k.toNat := by omega
   exact he, h.hb⟩
theorem LA.out (h : LA s b i j k) (fl : FL s b) (hgt : rot s j.toNat k.toNat < rot s i.toNat k.toNat) : ¬ (i ≤ b ∧ (b : Int) ≤ i + k) := fun hc => by
 have i0 := h.i0
 have k0 := h.k0
 obtain ⟨t, ht⟩ : ∃ t : Nat, b = i.toNat + t := ⟨b - i.toNat, by omega⟩
 refine fl.any (j.toNat + t) ⟨k.toNat - t, fun e he => ?_, ?_⟩
 ·have := h.agr (t + e) (by omega)
  unfold rot at this ⊢
  rw [ht, Nat.add_assoc, Nat.add_assoc]
  exact this.symm
 ·unfold rot at hgt ⊢
  rw [ht, Nat.add_assoc, Nat.add_assoc, show t + (k.toNat - t) = k.toNat by omega]
  exact hgt
theorem LA.gt (h : LA s b i j k) (fl : FL s b) (hgt : rot s j.toNat k.toNat < rot s i.toNat k.toNat) : (i + (k + 1) ≠ j → LA s b (i + (k + 1)) j 0) ∧ (i + (k + 1) = j → LA s b (i + (k + 1)) (j + 1) 0) := by
 have ho := h.out fl hgt
 have hb := h.hb
 have i0 := h.i0
 have j0 := h.j0
 have k0 := h.k0
 exact ⟨fun hne => ⟨by omega, j0, by omega, hne, fun e he => by omega, by omega⟩, fun he => ⟨by omega, by omega, by omega, by omega, fun e he => by omega, by omega⟩⟩
theorem LA.lt (h : LA s b i j k) (fl : FL s b) (hlt : rot s i.toNat k.toNat < rot s j.toNat k.toNat) : (i ≠ j + (k + 1) → LA s b i (j + (k + 1)) 0) ∧ (i = j + (k + 1) → LA s b i (j + (k + 1) + 1) 0) := by
 have ho := h.swap.out fl hlt
 have hb := h.hb
 have i0 := h.i0
 have j0 := h.j0
 have k0 := h.k0
 exact ⟨fun hne => ⟨i0, by omega, by omega, hne, fun e he => by omega, by omega⟩, fun he => ⟨by omega, by omega, by omega, by omega, fun e he => by omega, by omega⟩⟩
theorem LA.same (h : LA s b i j k) (fl : FL s b) (hn : (s.length : Int) ≤ k) : min i j = b := by
 have i0 := h.i0
 have j0 := h.j0
 have hlt := fl.lt
 have he : rot s i.toNat = rot s j.toNat := rot_same (by omega) fun d hd => h.agr d (by omega)
 have hne := h.ne
 have no : ∀ x : Nat, x < b → rot s x ≠ rot s b := fun x hx e => (fl.first x hx).not_eq fun d => by rw [e]
 rcases h.hb with e | e | ⟨e1, e2⟩
 ·rcases Int.lt_or_le j i with g | g
  ·exact absurd (by rw [show b = i.toNat by omega]; exact he.symm) (no j.toNat (by omega))
  ·omega
 ·rcases Int.lt_or_le i j with g | g
  ·exact absurd (by rw [show b = j.toNat by omega]; exact he) (no i.toNat (by omega))
  ·omega
 ·exfalso
  have key : ∀ lo hi : Nat, lo < hi → hi < b → rot s lo = rot s hi → False := fun lo hi h1 h2 e => by
   refine no (lo + (b - hi)) (by omega) ?_
   funext d
   have := congrFun e ((b - hi) + d)
   unfold rot at this ⊢
   rw [Nat.add_assoc, this]
   congr 1
   omega
  rcases Int.lt_or_le i j with g | g
  ·exact key i.toNat j.toNat (by omega) (by omega) he
  ·exact key j.toNat i.toNat (by omega) (by omega) he.symm
theorem LA.done (h : LA s b i j k) (fl : FL s b) (hc : ¬ (i < s.length ∧ j < s.length ∧ k < s.length)) : min i j = b := by
 have hb := h.hb
 have hlt := fl.lt
 have hne := h.ne
 by_cases hk : (s.length : Int) ≤ k
 ·exact h.same fl hk
 ·omega
theorem rot_rd {i k : Int} (i0 : 0 ≤ i) (k0 : 0 ≤ k) : rd s ((i + k) % s.length) = rot s i.toNat k.toNat := by
 have := om_rd s (i.toNat + k.toNat)
 rw [show ((i.toNat + k.toNat : Nat) : Int) = i + k by omega] at this
 exact this
end
end Go.Pure

/-! ## E25 -/
namespace Go.Eng
open Go Go.RowKit Go.Pure
section
variable {P : Program} {n : Nd} {B : Nat} {w0 : World} {L : Env} {R : List Row} {ty : TypeId}
/-- A call of a function without a body. -/
theorem a_entry {f : FuncId} {asx : List Operand} {ts : Array TypeId} {vs : List Value} {Post : Value → List Row → Prop} (ha : evs L asx = some vs)
  (hx : ∀ w, Hp B w0 w R → ∃ v w' R', (callFunc f vs.toArray).run P w = .ok (.value v) w' ∧ Hp B w0 w' R' ∧ Post v R') :
  Ac P n B w0 (.call { callee := .value (.func f), args := asx.toArray, argTypes := ts }) ty L R Post := by
 intro a w o K Q ho _ hs hp hk
 have e1 := hs.evs ha
 obtain ⟨v, w', R', hr, hp', hv⟩ := hx w hp
 have hf : a.eval (.func f) = .func (.func f) #[] #[] := hs.ev rfl
 unfold Oper.wp
 simp only [execOp, ho, resolve, hf, Deferred.ofValue, invoke, Sem.run_bind, Sem.run_pure, Result.andThen_ok, List.map_toArray, e1, List.append_toArray, List.nil_append, List.append_nil, hr, Oper.upon]
 exact hk v w' R' hp' hv
theorem cmp_bytes : ∀ {u t : List Int}, ByteL u → ByteL t → Lib.compareBytes (Lib.bytesOf u) (Lib.bytesOf t) = cmpL u t
 | [], [], _, _ => rfl
 | [], _ :: _, _, _ => rfl
 | _ :: _, [], _, _ => rfl
 | x :: u, y :: t, hu, ht => by
  have ih := cmp_bytes (u := u) (t := t) (fun z hz => hu z (List.mem_cons_of_mem _ hz)) fun z hz => ht z (List.mem_cons_of_mem _ hz)
  have hx := hu x (by simp)
  have hy := ht y (by simp)
  have e : ∀ z : Int, 0 ≤ z ∧ z < 256 → ((z.toNat.toUInt8).toNat : Int) = z := fun z hz => by
   rw [Nat.toUInt8, UInt8.toNat_ofNat_of_lt' (by simp [UInt8.size]; omega)]
   omega
  have hlt : ∀ {a b : Int}, 0 ≤ a ∧ a < 256 → 0 ≤ b ∧ b < 256 → (a.toNat.toUInt8 < b.toNat.toUInt8 ↔ a < b) := fun {a b} ha hb => by
   rw [UInt8.lt_iff_toNat_lt]
   have h1 := e a ha
   have h2 := e b hb
   omega
  show (if x.toNat.toUInt8 < y.toNat.toUInt8 then -1 else if y.toNat.toUInt8 < x.toNat.toUInt8 then 1 else Lib.compareBytes (Lib.bytesOf u) (Lib.bytesOf t)) = cmpL (x :: u) (y :: t)
  rw [cmpL, ih]
  by_cases c : x < y
  ·rw [if_pos c, if_pos ((hlt hx hy).2 c)]
  ·rw [if_neg c, if_neg (fun h => c ((hlt hx hy).1 h))]
   by_cases d : y < x
   ·rw [if_pos d, if_pos ((hlt hy hx).2 d)]
   ·rw [if_neg d, if_neg (fun h => d ((hlt hy hx).1 h))]
theorem run_bytesOf {w : World} {A : Option Addr} {m c : Nat} {u : List Int} (h : Rd w A m c 1 (ints .u8 u)) : (Extern.Bytes.bytesOf (.slice A m c)).run P w = .ok ⟨(Lib.bytesOf u).toArray⟩ w := by
 have hl := h.lenI
 rcases A with _ | a
 ·have h0 : u = [] := by
   cases u with
   | nil => rfl
   | cons y l' => obtain ⟨_, g, _⟩ := h.at_ 0 (.int .u8 y) (by simp [ints]); cases g
  subst h0
  rfl
 ·have := Lib.run_loadBytesX (P := P) w u a .empty fun j x hj => by
   obtain ⟨b, e, hc⟩ := h.at_ j (.int .u8 x) (by simp [ints, hj])
   obtain rfl := Option.some.inj e
   exact hc
  rw [← hl] at this
  show (Extern.Bytes.loadBytes a m .empty).run P w = _
  rw [this]
  simp
theorem run_cmp {w : World} {A A2 : Option Addr} {m c m2 c2 : Nat} {u t : List Int} (h : Rd w A m c 1 (ints .u8 u)) (h2 : Rd w A2 m2 c2 1 (ints .u8 t)) (hu : ByteL u) (ht : ByteL t) :
  (Extern.BytealgCompare.compare #[.slice A m c, .slice A2 m2 c2]).run P w = .ok (.int .i64 (cmpL u t)) w := by
 change Sem.run P (do pure (goInt (Extern.BytealgCompare.cmp (← Extern.Bytes.bytesOf (.slice A m c)) (← Extern.Bytes.bytesOf (.slice A2 m2 c2))))) w = _
 simp only [Sem.run_bind, run_bytesOf h, run_bytesOf h2, Result.andThen_ok, Sem.run_pure]
 rw [Lib.cmp_eq, cmp_bytes hu ht]
 rfl
/-- bytealg.Compare. -/
theorem a_cmp {f : FuncId} {fn : Func} {x y : Operand} {ts : Array TypeId} {A A2 : Option Addr} {m c m2 c2 : Nat} {u t : List Int} (hf : P.funcs[f]? = some fn) (hname : (fn.name == "runtime.NumGoroutine") = false) (hb : fn.body.isNone = true) (hn : Extern.findNext fn = none) (he : Extern.find fn = some Extern.BytealgCompare.compare)
  (hx : ev L x = some (.slice A m c)) (hy : ev L y = some (.slice A2 m2 c2)) (h : RdC B w0 R A m c 1 (ints .u8 u)) (h2 : RdC B w0 R A2 m2 c2 1 (ints .u8 t)) (hu : ByteL u) (ht : ByteL t) :
  Ac P n B w0 (.call { callee := .value (.func f), args := [x, y].toArray, argTypes := ts }) ty L R (fun v R' => v = .int .i64 (cmpL u t) ∧ R' = R) :=
 a_entry (vs := [.slice A m c, .slice A2 m2 c2]) (by simp [evs, hx, hy]) fun w hw => ⟨_, w, R, by
  rw [run_callFunc_extern hf hname hb hn he]
  rw [show [Value.slice A m c, Value.slice A2 m2 c2].toArray = #[.slice A m c, .slice A2 m2 c2] from rfl, run_cmp (h w hw) (h2 w hw) hu ht]
  rfl, hw, rfl, rfl⟩
theorem y_cap {x : Operand} {t e : TypeId} {A : Option Addr} {m c : Nat} (ht : P.underlying t = some (.slice e)) (hx : ev L x = some (.slice A m c)) : Yl P n B w0 (.call { callee := .builtin .cap, args := #[x], argTypes := #[t] }) ty L R (.int .i64 (c : Int)) := by
 intro a w o ho _ hs _
 simp [execOp, ho, resolve, invoke, builtin, Builtin.cap_, run_underlying ht, hs.ev hx, goInt]
theorem y_sliceZ {x z : Operand} {t e : TypeId} {A : Option Addr} {m c sz : Nat} {k2 : IntKind} (ht : P.underlying t = some (.slice e)) (hi : (P.info? e).map (·.size) = some sz) (hx : ev L x = some (.slice A m c)) (hz : ev L z = some (.int k2 0)) :
  Yl P n B w0 (.slice t x none (some z) none) ty L R (.slice A 0 c) := by
 intro a w o ho _ hs hp
 obtain ⟨i0, hi0, hsz0⟩ := Option.map_eq_some_iff.1 hi
 have hel : P.elem t = e := by simp [Program.elem, ht]
 have ht' : P.underlying t = some (.slice (P.elem t)) := by rw [hel]; exact ht
 simp only [execOp, ho, Option.map_some, Option.map_none, hs.ev hx, hs.ev hz, Sem.run_bind, run_sliceAt_slice w t _ _ _ _ ht', run_slice_h w t A m c ht' k2 0 (Int.le_refl 0) (by omega), hel]
 have : (if c = 0 then A else Option.map (fun x => x.add 0) A) = A := by
  split
  ·rfl
  ·exact pat_zero A
 simp [sizeOf, typeInfo, hi0, hsz0, sliced, this]
/-- Rows of this many cells asx one of fewer. -/
theorem Row.lies_cut {w : World} {e sz m c : Nat} {A : Option Addr} {xs : List Value} (h : Row.lies B w ⟨e, sz, A, m, c, xs, false⟩) {k : Nat} (hk : k ≤ m) (hA : A ≠ none) : Row.lies B w ⟨e, sz, A, k, c, xs.take (k * sz), false⟩ := by
 have h1 := Row.lies_w h rfl
 have hle : k * sz ≤ m * sz := Nat.mul_le_mul_right _ hk
 unfold Row.lies
 simp only
 obtain ⟨hl, h2⟩ := h1
 simp only at hl h2
 refine ⟨by rw [List.length_take]; omega, ?_⟩
 rcases h2 with ⟨hv, _⟩ | ⟨g, cap, cur, hv, hb, hg, hnc, hcm, hcs, ht⟩
 ·simp only [Value.slice.injEq] at hv
  exact absurd hv.1 hA
 ·simp only [Value.slice.injEq] at hv
  obtain ⟨rfl, _, rfl⟩ := hv
  refine .inr ⟨g, c, cur, rfl, hb, hg, by omega, hcm, hcs, ?_⟩
  rw [← ht, List.take_take]
  congr 1
  omega
theorem Hp.cut {w : World} {e sz m c : Nat} {A : Option Addr} {xs : List Value} (h : Hp B w0 w (⟨e, sz, A, m, c, xs, false⟩ :: R)) {k : Nat} (hk : k ≤ m) (hA : A ≠ none) : Hp B w0 w (⟨e, sz, A, k, c, xs.take (k * sz), false⟩ :: R) :=
 ⟨h.below, h.base, fun r hr => by
  rcases List.mem_cons.1 hr with rfl | hr
  ·exact Row.lies_cut (h.own _ (.head _)) hk hA
  ·exact h.own r (.tail _ hr), by
  obtain ⟨h1, h2⟩ := List.pairwise_cons.1 h.apart
  exact List.pairwise_cons.2 ⟨fun r hr => h1 r hr, h2⟩, h.late⟩
/-- A new row, with room behind what it holds. -/
theorem Hp.newC {w : World} (h : Hp B w0 w R) (cs : Array Value) (e m : Nat) (hm : m ≤ cs.size) (hc : cs.size ≤ maxLen) : Hp B w0 (w.alloc (.cells cs e)) (⟨e, 1, some ⟨w.heap.size, 0, none⟩, m, cs.size, cs.toList.take m, false⟩ :: R) := by
 have h1 := h.new cs e cs.size 1 hc (by omega)
 have := h1.cut (k := m) hm (by simp)
 rwa [Nat.mul_one] at this
/-- append of so many noughts to nothing. -/
theorem a_zeros {x y : Operand} {t tn e : TypeId} {z : Value} {bytes : Nat} {kn : IntKind} {m : Nat} (ht : P.underlying t = some (.slice e)) (htn : P.underlying tn = some (.int kn)) (hinfo : (P.info? e).map (fun i => (i.zero, i.size, i.bytes)) = some (some z, 1, bytes)) (hz : z.cells = #[z])
  (hx : ev L x = some (.slice none 0 0)) (hy : ev L y = some (.int .i64 (m : Int))) (h0 : 0 < m) (hm : m ≤ 9223372036854775807) (hb : m * bytes ≤ 281474976710656) :
  Ac P n B w0 (.call { callee := .builtin .append, args := #[x, y], argTypes := #[t, tn] }) ty L R (fun v R' => ∃ g c, v = .slice (some ⟨g, 0, none⟩) m c ∧ R' = ⟨e, 1, some ⟨g, 0, none⟩, m, c, List.replicate m z, false⟩ :: R) := by
 intro a w o K Q ho _ hs hp hk
 obtain ⟨i0, hi, hzz⟩ := Option.map_eq_some_iff.1 hinfo
 simp only [Prod.mk.injEq] at hzz
 obtain ⟨hz0, hz1, hz2⟩ := hzz
 have hr := Lib.run_append_nil_zeros (P := P) w t tn o.type e i0 z .i64 kn ht htn hi hz0 m h0 (by omega) (by omega) (by rw [hz2]; exact hb)
 have hzc : ∀ q, (Builtin.zeroCells z.cells q).toList = List.replicate q z := fun q => by
  rw [hz]
  refine List.ext_getElem (by simp [Builtin.zeroCells]) fun i h1 h2 => ?_
  simp [Builtin.zeroCells, Nat.mod_one]
 unfold Oper.wp
 simp only [execOp, ho, resolve, invoke, builtin, Sem.run_bind, Sem.run_pure, Result.andThen_ok, List.map_toArray, List.map_cons, List.map_nil, hs.ev hx, hs.ev hy, hr, Oper.upon]
 have hge := grownCap_ge w m 0 e
 have hle := grownCap_le_maxLen w m 0 e (by unfold maxLen; omega)
 have hsz : (Builtin.zeroCells z.cells m ++ Builtin.zeroCells z.cells (grownCap w m 0 e - m)).size = grownCap w m 0 e := by
  rw [← Array.length_toList, Array.toList_append, List.length_append, hzc, hzc, List.length_replicate, List.length_replicate]; omega
 have hp2 := (hp.drawn (w.drawn + 1) (by omega)).newC (Builtin.zeroCells z.cells m ++ Builtin.zeroCells z.cells (grownCap w m 0 e - m)) e m (by rw [hsz]; exact hge) (by rw [hsz]; exact hle)
 rw [Array.toList_append, hzc, hzc, List.take_left' (by rw [List.length_replicate]), hsz] at hp2
 exact hk _ _ _ hp2 ⟨_, _, rfl, rfl⟩
end
end Go.Eng

/-! ## N1 -/
namespace Go.Proofs.YtdfcnalkdlifiaaGreat
open Go Go.Eng Go.Pure
open Tryz
set_option linter.unusedVariables false
theorem LA.init0 {u : List Int} : LA u (lrotK u u.length) 0 1 0 := LA.init _
set_option maxRecDepth 100000 in
set_option maxHeartbeats 800000 in
theorem at6_ct {w : World} {A_u : Option Addr} {n_u c_u : Nat} {u : List Int} (h_u : Rd w A_u n_u c_u 1 (ints .u8 u)) (hN : u.length ≤ 1000000) :
  Ct Tryz.prog 91 #[.slice A_u n_u c_u] w.heap.size w [] (fun v R' => v = .int .i64 (lrot u)) := by
 obtain rfl := h_u.lenI
 refine fn1 Tryz.func91 rfl rfl rfl ?_
 have m_u := h_u.max
 refine wq <| wg rfl rfl <| wr_nil <| wq <| wm rfl rfl <| wr_y rfl (y_len underlying23 rfl) <| wg rfl rfl <| wr_nil <| wq <| wg rfl rfl <| wg rfl rfl <| wg rfl rfl ?_
 refine wr_nil <| w_seq <| w_block ?_
 refine w_loop3 (fun (i : Int) (j : Int) (k : Int) => [(0, .slice A_u u.length c_u), (3, .int .i64 ((u.length : Nat) : Int)), (4, .int .i64 i), (5, .int .i64 j), (6, .int .i64 k)]) (fun (i : Int) (j : Int) (k : Int) => []) (fun (i : Int) (j : Int) (k : Int) => (LA u (lrotK u u.length) i j k) ∧ (i ≤ 2 * u.length + 2) ∧ (j ≤ 2 * u.length + 3) ∧ (k ≤ u.length) ∧ (u.length = 0 → i = 0 ∧ j = 1)) (fun (i : Int) (j : Int) (k : Int) => (3 * u.length + 3 - (i + j + k)).toNat) ?_ ?_
 ·
  exact ⟨0, 1, 0, ⟨(LA.init0), (by omega), (by omega), (by omega), (by omega)⟩, (sc rfl (sc rfl (sc rfl (sc rfl (sc rfl Sub.nil))))), fun _ h => h⟩
 intro i j k ⟨hLA, hib, hjb, hkb, hz⟩
 have hi0 := hLA.i0
 have hj0 := hLA.j0
 have hk0 := hLA.k0
 refine w_seq <| wq <| wm rfl rfl <| wm rfl rfl <| wL rfl rfl rfl <| wm rfl rfl <| wr_mid 4 [(0, .slice A_u u.length c_u), (3, .int .i64 ((u.length : Nat) : Int)), (4, .int .i64 i), (5, .int .i64 j), (6, .int .i64 k), (18, .bool (decide ((i < ((u.length : Nat) : Int)) ∧ (j < ((u.length : Nat) : Int)))))] [] ?_ ?_
 ·
  refine wr_case 14 rfl (fun hc1 => ?_) (fun hc1 => ?_)
  ·
   refine wr_yes rfl rfl <| wm rfl rfl <| wr_yes rfl rfl <| wm rfl rfl <| wr_yes rfl rfl <| wL rfl rfl rfl <| wr_y rfl (y_pickT rfl rfl) <| wr_nil ?_
   exact ⟨(sc rfl (sc rfl (sc rfl (sc rfl (sc rfl (Sub.to rfl (mb (by first | omega | exact ⟨fun h => ⟨(by assumption), h⟩, fun h => h.2⟩ | exact .inl (by assumption) | exact ⟨.inr, fun h => h.resolve_left (by assumption)⟩ | exact ⟨fun h => h.resolve_left (by assumption), .inr⟩ | simp [*])) Sub.nil)))))), fun _ h => h⟩
  ·
   refine wr_no rfl rfl rfl rfl <| wr_no rfl rfl rfl rfl <| wr_no rfl rfl rfl rfl <| wr_y rfl (y_pickF rfl rfl) <| wr_nil ?_
   exact ⟨(sc rfl (sc rfl (sc rfl (sc rfl (sc rfl (Sub.to rfl (mb_f (by first | omega | exact ⟨fun h => ⟨(by assumption), h⟩, fun h => h.2⟩ | exact .inl (by assumption) | exact ⟨.inr, fun h => h.resolve_left (by assumption)⟩ | exact ⟨fun h => h.resolve_left (by assumption), .inr⟩ | simp [*])) Sub.nil)))))), fun _ h => h⟩
 refine wm rfl rfl <| wr_mid 4 [(0, .slice A_u u.length c_u), (3, .int .i64 ((u.length : Nat) : Int)), (4, .int .i64 i), (5, .int .i64 j), (6, .int .i64 k), (23, .bool (decide (((i < ((u.length : Nat) : Int)) ∧ (j < ((u.length : Nat) : Int))) ∧ (k < ((u.length : Nat) : Int)))))] [] ?_ ?_
 ·
  refine wr_case 19 rfl (fun hc2 => ?_) (fun hc2 => ?_)
  ·
   refine wr_yes rfl rfl <| wm rfl rfl <| wr_yes rfl rfl <| wm rfl rfl <| wr_yes rfl rfl <| wL rfl rfl rfl <| wr_y rfl (y_pickT rfl rfl) <| wr_nil ?_
   exact ⟨(sc rfl (sc rfl (sc rfl (sc rfl (sc rfl (Sub.to rfl (mb (by first | omega | exact ⟨fun h => ⟨(by assumption), h⟩, fun h => h.2⟩ | exact .inl (by assumption) | exact ⟨.inr, fun h => h.resolve_left (by assumption)⟩ | exact ⟨fun h => h.resolve_left (by assumption), .inr⟩ | simp [*])) Sub.nil)))))), fun _ h => h⟩
  ·
   refine wr_no rfl rfl rfl rfl <| wr_no rfl rfl rfl rfl <| wr_no rfl rfl rfl rfl <| wr_y rfl (y_pickF rfl rfl) <| wr_nil ?_
   exact ⟨(sc rfl (sc rfl (sc rfl (sc rfl (sc rfl (Sub.to rfl (mb_f (by first | omega | exact ⟨fun h => ⟨(by assumption), h⟩, fun h => h.2⟩ | exact .inl (by assumption) | exact ⟨.inr, fun h => h.resolve_left (by assumption)⟩ | exact ⟨fun h => h.resolve_left (by assumption), .inr⟩ | simp [*])) Sub.nil)))))), fun _ h => h⟩
 refine wr_nil <| w_if rfl (fun hc3 => ?_) (fun hc3 => ?_)
 ·
  have hm1 := Int.emod_nonneg (i + k) (show (u.length : Int) ≠ 0 by omega)
  have hm2 := Int.emod_lt_of_pos (i + k) (show (0 : Int) < u.length by omega)
  have hm3 := Int.emod_nonneg (j + k) (show (u.length : Int) ≠ 0 by omega)
  have hm4 := Int.emod_lt_of_pos (j + k) (show (0 : Int) < u.length by omega)
  have fl := lrot_FL (s := u) (by omega)
  have ei := rot_rd (s := u) hLA.i0 hLA.k0
  have ej := rot_rd (s := u) hLA.j0 hLA.k0
  refine w_skip <| w_block <| w_seq <| w_regd mixed <| wd_y 0 rfl (by kernel_rfl) rfl (y_move rfl) <| wd_y 1 rfl (by kernel_rfl) rfl (y_move rfl) <| wd_y 2 rfl (by kernel_rfl) rfl (y_move rfl) <| wd_y 3 rfl (by kernel_rfl) rfl (y_addI rfl rfl (by omega)) <| wd_y 4 rfl (by kernel_rfl) rfl (y_move rfl) <| wd_y 5 rfl (by kernel_rfl) rfl (y_rem rfl rfl (by omega) (by omega)) <| wd_y 6 rfl (by kernel_rfl) rfl (y_index1 underlying23 sz5 rfl rfl (h_u.c _) (by omega) (by omega)) <| wd_y 7 rfl (by kernel_rfl) rfl (y_ldI underlying5 rfl rfl (h_u.c _) (by omega) (by omega)) <| wd_y 8 rfl (by kernel_rfl) rfl (y_move rfl) <| wd_y 9 rfl (by kernel_rfl) rfl (y_move rfl) <| wd_y 10 rfl (by kernel_rfl) rfl (y_move rfl) ?_
  refine wd_y 11 rfl (by kernel_rfl) rfl (y_addI rfl rfl (by omega)) <| wd_y 12 rfl (by kernel_rfl) rfl (y_move rfl) <| wd_y 13 rfl (by kernel_rfl) rfl (y_rem rfl rfl (by omega) (by omega)) <| wd_y 14 rfl (by kernel_rfl) rfl (y_index1 underlying23 sz5 rfl rfl (h_u.c _) (by omega) (by omega)) <| wd_y 15 rfl (by kernel_rfl) rfl (y_ldI underlying5 rfl rfl (h_u.c _) (by omega) (by omega)) <| wd_y 16 rfl (by kernel_rfl) rfl (y_assign rfl) <| wd_y 17 rfl (by kernel_rfl) rfl (y_assign rfl) <| wd_nil (by kernel_rfl) <| w_seq <| w_block <| wq <| wm rfl rfl <| wm rfl rfl <| wr_y rfl (y_eq rfl rfl) ?_
  refine wg rfl rfl <| wr_nil <| w_if rfl (fun hc4 => ?_) (fun hc4 => ?_)
  ·
   have hst := hLA.eq (by rw [← ei, ← ej]; exact hc4)
   refine wq <| wm rfl rfl <| wA rfl rfl rfl (by omega) <| wg rfl rfl <| wr_nil <| w_exit ?_
   exact ⟨i, j, k + 1, ⟨(hst), (by omega), (by omega), (by omega), (by omega)⟩, (by omega), (sc rfl (sc rfl (sc rfl (sc rfl (sc rfl Sub.nil))))), fun _ h => h⟩
  ·
   refine wq <| wm rfl rfl <| wm rfl rfl <| wr_y rfl (y_gt rfl rfl) <| wg rfl rfl <| wr_nil <| w_if rfl (fun hc5 => ?_) (fun hc5 => ?_)
   ·
    have hst := hLA.gt fl (by rw [← ei, ← ej]; exact hc5)
    refine w_reg <| wm rfl rfl <| wm rfl rfl <| wA rfl rfl rfl (by omega) <| wA rfl rfl rfl (by omega) <| wg rfl rfl <| wr_nil <| wq <| wg rfl rfl <| wr_nil <| wq <| wm rfl rfl <| wm rfl rfl ?_
    refine wr_y rfl (y_eq rfl rfl) <| wr_nil <| w_if rfl (fun hc6 => ?_) (fun hc6 => ?_)
    ·
     refine w_reg <| wm rfl rfl <| wA rfl rfl rfl (by omega) <| wg rfl rfl <| wr_nil ?_
     exact ⟨i + (k + 1), j + 1, 0, ⟨(hst.2 (by omega)), (by omega), (by omega), (by omega), (by omega)⟩, (by omega), (sc rfl (sc rfl (sc rfl (sc rfl (sc rfl Sub.nil))))), fun _ h => h⟩
    ·
     refine w_skip ?_
     exact ⟨i + (k + 1), j, 0, ⟨(hst.1 (by omega)), (by omega), (by omega), (by omega), (by omega)⟩, (by omega), (sc rfl (sc rfl (sc rfl (sc rfl (sc rfl Sub.nil))))), fun _ h => h⟩
   ·
    have hst := hLA.lt fl (by rw [← ei, ← ej]; omega)
    refine w_reg <| wm rfl rfl <| wm rfl rfl <| wA rfl rfl rfl (by omega) <| wA rfl rfl rfl (by omega) <| wg rfl rfl <| wr_nil <| wq <| wg rfl rfl <| wr_nil <| wq <| wm rfl rfl <| wm rfl rfl ?_
    refine wr_y rfl (y_eq rfl rfl) <| wr_nil <| w_if rfl (fun hc7 => ?_) (fun hc7 => ?_)
    ·
     refine w_reg <| wm rfl rfl <| wA rfl rfl rfl (by omega) <| wg rfl rfl <| wr_nil ?_
     exact ⟨i, (j + (k + 1)) + 1, 0, ⟨(hst.2 (by omega)), (by omega), (by omega), (by omega), (by omega)⟩, (by omega), (sc rfl (sc rfl (sc rfl (sc rfl (sc rfl Sub.nil))))), fun _ h => h⟩
    ·
     refine w_skip ?_
     exact ⟨i, j + (k + 1), 0, ⟨(hst.1 (by omega)), (by omega), (by omega), (by omega), (by omega)⟩, (by omega), (sc rfl (sc rfl (sc rfl (sc rfl (sc rfl Sub.nil))))), fun _ h => h⟩
 ·
  refine w_exit <| wq <| wm rfl rfl <| wm rfl rfl <| wr_y rfl (y_min rfl rfl) <| wg rfl rfl <| wr_nil <| w_ret ?_
  refine ⟨_, rfl, ?_⟩
  rcases Nat.eq_zero_or_pos u.length with z | z
  ·obtain ⟨rfl, rfl⟩ := hz z
   have e : lrot u = 0 := by unfold lrot; rw [z]; rfl
   rw [e]; rfl
  ·exact congrArg (Value.int .i64) (hLA.done (lrot_FL z) (by omega))

set_option maxRecDepth 100000 in
theorem growB_ct {w : World} {m : Int} (h0 : 0 ≤ m) (hN : m ≤ 1000000) :
  Ct Tryz.prog 123 #[.slice none 0 0, .int .i64 m] w.heap.size w [] (fun v R' => ∃ A c, v = .slice A 0 c ∧ R' = [⟨5, 1, A, 0, c, ints .u8 [], false⟩]) := by
 refine fn1 Tryz.func123 rfl rfl rfl ?_
 refine wq <| wr_sub (R1 := [⟨5, 1, none, 0, 0, ints .u8 ([]), false⟩]) (Sub.refl _) (fun _ h => h.nil 5 1) <| wg rfl rfl <| wr_nil <| w_seq <| wq <| wm rfl rfl <| wr_y rfl (Yl.f (y_lt rfl rfl) (by omega)) <| wr_nil <| w_false rfl <| w_skip <| w_seq <| w_seq ?_
 refine w_reg <| wm rfl rfl <| wm rfl rfl <| wr_y rfl (y_cap underlying23 rfl) <| wm rfl rfl <| wr_y rfl (y_len underlying23 rfl) <| wS rfl rfl rfl (by omega) <| wS rfl rfl rfl (by omega) <| wg rfl rfl <| wr_nil <| wq <| wm rfl rfl <| wr_y rfl (y_gt rfl rfl) <| wr_nil ?_
 refine w_if rfl (fun hc1 => ?_) (fun hc1 => ?_)
 ·
  refine w_reg <| wm rfl rfl <| wm rfl rfl <| wr_y rfl (y_cap underlying23 rfl) <| wr_y rfl (y_sliceZ underlying23 sz5 rfl rfl) <| wr_y rfl (Yl.is (y_move rfl) (by rw [show m - (((0 : Nat) : Int) - ((0 : Nat) : Int)) = ((m.toNat : Nat) : Int) by omega])) ?_
  refine wr_a rfl (a_zeros underlying23 underlying3 zb5 rfl rfl rfl (by omega) (by omega) (by omega)) ?_
  rintro _ _ ⟨g_1, c_2, rfl, rfl⟩
  refine wr_sub (R1 := [⟨5, 1, (some ⟨g_1, 0, none⟩), 0, c_2, ints .u8 ([]), false⟩, ⟨5, 1, none, 0, 0, ints .u8 ([]), false⟩]) (Sub.refl _) (fun _ h => h.cut (k := 0) (Nat.zero_le _) (by simp)) ?_
  refine wm rfl rfl <| wr_y rfl (y_len underlying23 rfl) <| wr_y rfl (y_sliceZ underlying23 sz5 rfl rfl) <| wg rfl rfl <| wr_nil <| wq <| wm rfl rfl <| wg rfl rfl <| wr_nil <| w_retR (R1 := [⟨5, 1, (some ⟨g_1, 0, none⟩), 0, c_2, ints .u8 ([]), false⟩]) (fun _ h => h.sel [0] (by decide) rfl) ?_
  refine ⟨_, rfl, ?_⟩
  exact ⟨_, _, rfl, rfl⟩
 ·
  refine w_skip <| wq <| wm rfl rfl <| wg rfl rfl <| wr_nil <| w_retR (R1 := [⟨5, 1, none, 0, 0, ints .u8 ([]), false⟩]) (fun _ h => h.sel [0] (by decide) rfl) ?_
  refine ⟨_, rfl, ?_⟩
  exact ⟨_, _, rfl, rfl⟩

theorem flat_le {ws : List (List Int)} (i : Nat) : ((ws.take i).flatten).length ≤ ws.flatten.length := by
 conv => rhs; rw [← List.take_append_drop i ws]
 rw [List.flatten_append, List.length_append]
 omega
set_option maxRecDepth 100000 in
set_option maxHeartbeats 800000 in
theorem concatB_ct {w : World} {A_ws : Option Addr} {n_ws c_ws : Nat} {vals_ws : List Value} {ws : List (List Int)} (h_ws : Rd w A_ws n_ws c_ws 1 vals_ws) (s_ws : SlW .u8 w vals_ws ws) (hN : ws.flatten.length ≤ 1000000 ∧ ws.length ≤ 1000000) :
  Ct Tryz.prog 92 #[.slice A_ws n_ws c_ws] w.heap.size w [] (fun v R' => ∃ A c, v = .slice A (ws.flatten).length c ∧ R' = [⟨5, 1, A, (ws.flatten).length, c, ints .u8 (ws.flatten), false⟩]) := by
 obtain rfl : n_ws = ws.length := by have := h_ws.len; have := s_ws.1; omega
 refine fn1 Tryz.func92 rfl rfl rfl ?_
 have m_ws := h_ws.max
 refine wq <| wg rfl rfl <| wr_nil <| wq <| wg rfl rfl <| wr_nil <| w_seq <| wq <| wm rfl rfl <| wr_y rfl (y_len underlying22 rfl) <| wm rfl rfl <| wr_nil ?_
 refine w_block ?_
 refine w_loop2 (fun (i : Int) (z : Int) => [(0, .slice A_ws ws.length c_ws), (3, .int .i64 z), (9, .slice A_ws ws.length c_ws), (10, .int .i64 ((ws.length : Nat) : Int)), (11, .int .i64 i)]) (fun (i : Int) (z : Int) => []) (fun (i : Int) (z : Int) => (0 ≤ i) ∧ (i ≤ ws.length) ∧ (z = ((ws.take i.toNat).flatten.length : Int))) (fun (i : Int) (z : Int) => (ws.length - i).toNat) ?_ ?_
 ·
  exact ⟨0, 0, ⟨(by omega), (by omega), (rfl)⟩, (sc rfl (sc rfl (sc rfl (sc rfl (sc rfl Sub.nil))))), fun _ h => h⟩
 intro i z ⟨hi0, hi1, hz⟩
 have hfl := flat_le (ws := ws) i.toNat
 refine wq <| wL rfl rfl rfl <| wr_nil <| w_seq <| w_if rfl (fun hc1 => ?_) (fun hc1 => ?_)
 ·
  have hfl2 := flat_le (ws := ws) (i + 1).toNat
  rw [flat_take_succ hi0 (by omega), List.length_append] at hfl2
  refine w_skip <| w_seq <| w_block <| wq <| wr_y rfl (y_index1 underlying22 sz23 rfl rfl (h_ws.c _) (by omega) (by omega)) ?_
  refine s_ws.elim (i := i) (by omega) (by omega) (fun A_1 c_2 hv_3 hr_4 hb_5 mhr_4 => ?_)
  refine wr_y rfl (y_ld underlying23 rfl rfl rfl (h_ws.c _) hv_3) <| wg rfl rfl <| wr_nil <| wq <| wm rfl rfl <| wm rfl rfl <| wr_y rfl (y_len underlying23 rfl) <| wA rfl rfl rfl (by omega) <| wg rfl rfl <| wr_nil <| wq <| wm rfl rfl <| wr_y rfl (Yl.f (y_lt rfl rfl) (by omega)) ?_
  refine wr_nil <| w_false rfl <| w_skip <| w_reg <| wA rfl rfl rfl (by omega) <| wm rfl rfl <| wr_nil ?_
  exact ⟨i + 1, z + (((rdl ws i).length : Nat) : Int), ⟨(by omega), (by omega), (by rw [flat_take_succ hi0 (by omega), List.length_append, hz]; omega)⟩, (by omega), (sc rfl (sc rfl (sc rfl (sc rfl (sc rfl Sub.nil))))), fun _ h => h⟩
 ·
  refine w_exit <| wq <| wm rfl rfl <| wr_a rfl (a_callF en123 rfl (Ct.fresh (fun w hw => growB_ct (by omega) (by omega)))) ?_
  rintro _ _ ⟨_, rfl, A_6, c_7, rfl, rfl⟩
  refine wg rfl rfl <| wr_nil <| w_seq <| wq <| wm rfl rfl <| wr_y rfl (y_len underlying22 rfl) <| wm rfl rfl <| wr_nil <| w_block ?_
  refine w_loop5 (fun (q : Int) (A1 : Option Addr) (n1 : Nat) (c1 : Nat) (acc : List Int) => [(6, .slice A1 n1 c1), (25, .slice A_ws ws.length c_ws), (26, .int .i64 ((ws.length : Nat) : Int)), (27, .int .i64 q)]) (fun (q : Int) (A1 : Option Addr) (n1 : Nat) (c1 : Nat) (acc : List Int) => [⟨5, 1, A1, n1, c1, ints .u8 acc, false⟩]) (fun (q : Int) (A1 : Option Addr) (n1 : Nat) (c1 : Nat) (acc : List Int) => (0 ≤ q) ∧ (q ≤ ws.length) ∧ (n1 = acc.length) ∧ (acc = (ws.take q.toNat).flatten)) (fun (q : Int) (A1 : Option Addr) (n1 : Nat) (c1 : Nat) (acc : List Int) => (ws.length - q).toNat) ?_ ?_
  ·
   exact ⟨0, A_6, 0, c_7, [], ⟨(by omega), (by omega), (rfl), (rfl)⟩, (sc rfl (sc rfl (sc rfl (sc rfl Sub.nil)))), fun _ h => h⟩
  intro q A1 n1 c1 acc ⟨hq0, hq1, hn1, hacc⟩
  have hal : acc.length ≤ ws.flatten.length := by rw [hacc]; exact flat_le _
  refine wq <| wL rfl rfl rfl <| wr_nil <| w_seq <| w_if rfl (fun hc2 => ?_) (fun hc2 => ?_)
  ·
   have hfl2 := flat_le (ws := ws) (q + 1).toNat
   rw [flat_take_succ hq0 (by omega), List.length_append] at hfl2
   refine w_skip <| w_seq <| w_block <| wq <| wr_y rfl (y_index1 underlying22 sz23 rfl rfl (h_ws.c _) (by omega) (by omega)) ?_
   refine s_ws.elim (i := q) (by omega) (by omega) (fun A_8 c_9 hv_10 hr_11 hb_12 mhr_11 => ?_)
   refine wr_y rfl (y_ld underlying23 rfl rfl rfl (h_ws.c _) hv_10) <| wg rfl rfl <| wr_nil <| w_reg <| wm rfl rfl <| wm rfl rfl <| wr_a rfl (a_appendI 0 rfl underlying23 zb5 rfl rfl rfl (hr_11.c _) (by omega)) ?_
   rintro _ _ ⟨A_13, c_14, rfl, rfl⟩
   refine wr_rows (R1 := [⟨5, 1, A_13, (n1 + ((rdl ws q).length)), c_14, ints .u8 (acc ++ (rdl ws q)), false⟩]) rfl <| wr_as (v := .slice A_13 (n1 + ((rdl ws q).length)) c_14) rfl <| wg rfl rfl <| wr_nil <| w_reg <| wA rfl rfl rfl (by omega) <| wm rfl rfl <| wr_nil ?_
   exact ⟨q + 1, A_13, n1 + ((rdl ws q).length), c_14, acc ++ (rdl ws q), ⟨(by omega), (by omega), (by rw [List.length_append, hn1]), (by rw [flat_take_succ hq0 (by omega), hacc])⟩, (by omega), (sc rfl (sc rfl (sc rfl (sc rfl Sub.nil)))), fun _ h => h⟩
  ·
   refine w_exit <| wq <| wm rfl rfl <| wg rfl rfl <| wr_nil <| w_retR (R1 := [⟨5, 1, A1, n1, c1, ints .u8 acc, false⟩]) (fun _ h => h.sel [0] (by decide) rfl) ?_
   refine ⟨_, rfl, ?_⟩
   rw [List.take_of_length_le (by omega)] at hacc
   subst hacc
   obtain rfl := hn1
   exact ⟨_, _, rfl, rfl⟩

end Go.Proofs.YtdfcnalkdlifiaaGreat

/-! ## E18 -/
namespace Go.Eng
open Go Go.RowKit Go.Proofs Go.Sort
/-- A world that has but grown. -/
theorem grown_eq {W w' : World} (hb : Below W.heap.size W w') (hd : W.drawn ≤ w'.drawn) : ∃ q os, w' = grow (W.drewN q) os := by
 refine ⟨w'.drawn - W.drawn, w'.heap.extract W.heap.size w'.heap.size, ?_⟩
 have hh : W.heap ++ w'.heap.extract W.heap.size w'.heap.size = w'.heap := by
  apply Array.ext_getElem?
  intro k
  rw [Array.getElem?_append]
  split
  ·rename_i hk
   exact (hb.block k hk).symm
  ·rename_i hk
   have := hb.size
   rw [Array.getElem?_extract]
   split
   ·congr 1; omega
   ·rename_i h2
    rw [Array.getElem?_eq_none (by omega)]
 obtain ⟨h1, h2, h3, h4, h5⟩ := w'
 obtain ⟨g1, g2, g3, g4, g5⟩ := W
 have b1 := hb.os
 have b2 := hb.tape
 have b3 := hb.output
 simp only at b1 b2 b3 hh hd
 subst b1; subst b2; subst b3
 simp only [grow, World.drewN, hh, World.mk.injEq, true_and, and_true]
 omega
section
variable {P : Program} {B : Nat} {w0 : World} {R : List Row}
/-- What the kit's contract of slices.SortFunc says, at elements of two cells. -/
def SortsK2 (P : Program) (f g : Nat) (cb : Array Value) : Prop :=
 ∀ (α : Type) [Inhabited α] (enc : α → List Value) (_ : ∀ x, (enc x).length = 2) (_ : ∀ x, ∀ v ∈ enc x, v.oneCell' = true) (cf : α → α → Int) (_ : SWO (ltOf cf)) (blk off cap : Nat) (d : Array α) (w : World)
  (_ : CmpLays P g cb enc 2 cf blk off d.size w) (_ : HoldsK enc 2 w blk off d) (_ : blk < w.heap.size) (_ : d.size < 4611686018427387904),
  Calls P f #[.slice (some ⟨blk, off, none⟩) d.size cap, .func (.func g) #[] cb] w fun e w' => e = .returned (.tuple #[]) ∧ ∃ d' n os, PermIn 0 d.size d d' ∧ SortedIn (ltOf cf) 0 d.size d' ∧ w' = sortWorldK enc 2 w blk off n d' os
/-- All rows but one, in a world that is asx it was but for that one's block. -/
theorem Hp.but {w W : World} (h : Hp B w0 w R) {i : Nat} {r : Row} (hi : R[i]? = some r) (ho : W.os = w.os) (ht : W.tape = w.tape) (hu : W.output = w.output) (hd : w.drawn ≤ W.drawn) (hs : w.heap.size ≤ W.heap.size)
  (hk : ∀ k, k < w.heap.size → (∀ a, r.A = some a → a.block ≠ k) → W.heap[k]? = w.heap[k]?) : Hp B w0 W (R.eraseIdx i) := by
 have hr : r ∈ R := List.mem_of_getElem? hi
 refine ⟨⟨ho.trans h.below.os, ht.trans h.below.tape, hu.trans h.below.output, Nat.le_trans h.below.size hs, fun k hkB => ?_⟩, Nat.le_trans h.base hs, fun q hq => ?_, h.apart.sublist (List.eraseIdx_sublist _ _), h.late.trans ⟨hd, fun k o hk' hc => ?_⟩⟩
 ·rw [hk k (Nat.lt_of_lt_of_le hkB h.base) (fun a ha => by have := (Row.lies_lt (h.own r hr) a ha).1; omega), h.below.block k hkB]
 ·obtain ⟨j, hj⟩ := List.mem_iff_getElem?.1 hq
  obtain ⟨j', hj', hne⟩ : ∃ j', R[j']? = some q ∧ j' ≠ i := by
   rw [List.getElem?_eraseIdx] at hj
   split at hj
   ·exact ⟨j, hj, by omega⟩
   ·exact ⟨j + 1, hj, by omega⟩
  refine Row.lies_of_block (h.own q (List.mem_of_getElem? hj')) fun a ha => hk a.block (Row.lies_lt (h.own q (List.mem_of_getElem? hj')) a ha).2 fun a' ha' => ?_
  have hjl := (List.getElem?_eq_some_iff.1 hj').1
  have hjv := (List.getElem?_eq_some_iff.1 hj').2
  have hil := (List.getElem?_eq_some_iff.1 hi).1
  have hiv := (List.getElem?_eq_some_iff.1 hi).2
  rcases Nat.lt_or_gt_of_ne hne with hlt | hlt
  ·have := List.pairwise_iff_getElem.1 h.apart j' i hjl hil hlt
   rw [hjv, hiv] at this
   exact fun e => this a a' ha ha' e.symm
  ·have := List.pairwise_iff_getElem.1 h.apart i j' hil hjl hlt
   rw [hjv, hiv] at this
   exact this a' a ha' ha
 ·rw [hk k (Array.getElem?_eq_some_iff.1 hk').1 fun a ha e => ?_]
  ·exact hk'
  ·subst e
   obtain ⟨cs, e', fr, hc2⟩ := Row.lies_cells (h.own r hr) ha
   rw [hc2] at hk'
   cases hk'
   cases hc
theorem sort_pairs {f g : Nat} {cb : Array Value} (hSF : SortsK2 P f g cb) {T m c : Nat} {A : Option Addr} {l : List (Int × Int)} (i : Nat) (hi : R[i]? = some ⟨T, 2, A, m, c, prs l, false⟩) (hne : l ≠ []) (hsz : l.length < 4611686018427387904) (cmp : Int × Int → Int × Int → Int) (hO : SWO (ltOf cmp))
  (hclo : ∀ W, Hp B w0 W (R.eraseIdx i) → ∀ x ∈ l, ∀ y ∈ l,
   Ct P g (#[.agg #[.int .i64 x.1, .int .i64 x.2], .agg #[.int .i64 y.1, .int .i64 y.2]] ++ cb) W.heap.size W [] (fun v _ => v = .int .i64 (cmp x y))) :
  Ct P f #[.slice A m c, .func (.func g) #[] cb] B w0 R (fun v R' => v = .tuple #[] ∧ ∃ l', l'.Perm l ∧ l'.Pairwise (fun x y => ¬ cmp y x < 0) ∧ R' = R.set i ⟨T, 2, A, m, c, prs l', false⟩) := by
 intro w hw
 have hown := Row.lies_w (hw.own _ (List.mem_of_getElem? hi)) rfl
 have hrd := Row.rd (hw.own _ (List.mem_of_getElem? hi))
 have hm : m = l.length := by
  have := hrd.len
  rw [prs_length] at this
  simp only at this
  omega
 have hpos : 0 < l.length := List.length_pos_iff.2 hne
 rcases hown.2 with ⟨_, hn⟩ | ⟨blk, cap, cur, hv, hb, hg, hnc, hcm, hcs, ht⟩
 ·simp only at hn; omega
 simp only [Value.slice.injEq, true_and] at hv
 obtain ⟨rfl, rfl⟩ := hv
 simp only at ht hcs hg hnc
 haveI : Inhabited { p : Int × Int // p ∈ l } := ⟨⟨l[0], List.getElem_mem _⟩⟩
 let d : Array { p : Int × Int // p ∈ l } := l.attach.toArray
 have hds : d.size = l.length := by simp [d]
 have hdv : d.toList.map Subtype.val = l := List.attach_map_subtype_val l
 have hlt : blk < w.heap.size := (Array.getElem?_eq_some_iff.1 hg).1
 have hH : HoldsK encP 2 w blk 0 d := by
  intro j hj
  have hj' : j < l.length * 2 := by
   have : j < (flatK encP 2 d).size := hj
   rw [size_flatK, hds] at this
   exact this
  have hf := flatK_prs d
  rw [hdv] at hf
  have e : (prs l)[j]? = some ((flatK encP 2 d)[j]!) := by
   rw [← hf, Array.getElem?_toList, Array.getElem?_eq_getElem hj, getElem!_pos _ j hj]
  refine ⟨?_, ?_⟩
  ·rw [Nat.zero_add]
   exact hw.cellAt i hi rfl e
  ·exact hw.openAt i (0 + j) hi rfl rfl
 have hcmp : CmpLays P g cb (encP (l := l)) 2 (fun x y => cmp x.1 y.1) blk 0 d.size w := by
  intro m' os dk hdk x y
  have hW : w.heap.size ≤ (sortWorldK (encP (l := l)) 2 w blk 0 m' dk os).heap.size := by
   unfold sortWorldK
   rw [size_grow]
   unfold putRowK
   rw [Go.Sort.size_putRow]
   exact Nat.le_add_right _ _
  have hk : ∀ k, k < w.heap.size → (∀ a : Addr, some (⟨blk, 0, none⟩ : Addr) = some a → a.block ≠ k) → (sortWorldK (encP (l := l)) 2 w blk 0 m' dk os).heap[k]? = w.heap[k]? := by
   intro k hk hne
   have hbk : blk ≠ k := hne _ rfl
   unfold sortWorldK
   rw [heap_grow_old _ _ (by unfold putRowK; rw [Go.Sort.size_putRow]; exact hk)]
   simp [putRowK, putRow, mapBlock, Array.getElem?_modify, hbk, Sort.ahead]
  refine (hclo _ (hw.but (W := sortWorldK (encP (l := l)) 2 w blk 0 m' dk os) hi rfl rfl rfl (by show w.drawn ≤ w.drawn + m'; omega) hW hk) x.1 x.2 y.1 y.2 _ (Hp.refl _)).mono ?_
  rintro e w' ⟨v, R', rfl, hh, rfl⟩
  exact ⟨rfl, grown_eq hh.below hh.late.1⟩
 have hO' : SWO (ltOf fun (x y : { p : Int × Int // p ∈ l }) => cmp x.1 y.1) := ⟨fun x => hO.irrefl x.1, fun x y z => hO.trans x.1 y.1 z.1, fun x y z => hO.ntrans x.1 y.1 z.1⟩
 have hcall := hSF _ encP (fun _ => rfl) (fun x v hv => by simp [encP] at hv; rcases hv with rfl | rfl <;> rfl) _ hO' blk 0 c d w hcmp hH hlt (by rw [hds]; exact hsz)
 rw [hds, ← hm] at hcall
 refine hcall.mono ?_
 rintro e w' ⟨rfl, d', n, os, ⟨hs', _, hperm⟩, hsort, rfl⟩
 have hd's : d'.size = l.length := by rw [hs', hds]
 refine ⟨_, _, rfl, ?_, rfl, d'.toList.map Subtype.val, ?_, ?_, rfl⟩
 ·have hheap : (sortWorldK encP 2 w blk 0 n d' os).heap[blk]? = some (.cells (putCells id 0 (flatK encP 2 d') cur) T (0, 0)) := by
   unfold sortWorldK
   rw [heap_grow_old _ _ (by unfold putRowK; rw [Go.Sort.size_putRow]; exact hlt)]
   simp [putRowK, putRow, mapBlock, Array.getElem?_modify, Sort.ahead, hg, onCells]
  refine hw.upd hi (row := some blk) ⟨rfl, rfl, rfl, ?_, fun k hk hne => ?_⟩ ?_ (fun k hk => ?_) ?_ (fun a' ha' => .inl ⟨a', ha', rfl⟩)
  ·unfold sortWorldK
   rw [size_grow]
   unfold putRowK
   rw [Go.Sort.size_putRow]
   exact Nat.le_add_right _ _
  ·have hbk : blk ≠ k := fun e => hne (by rw [e])
   unfold sortWorldK
   rw [heap_grow_old _ _ (by unfold putRowK; rw [Go.Sort.size_putRow]; exact hk)]
   simp [putRowK, putRow, mapBlock, Array.getElem?_modify, hbk, Sort.ahead]
  ·show w.drawn ≤ w.drawn + n
   omega
  ·obtain rfl := Option.some.inj hk
   exact ⟨_, rfl, rfl⟩
  ·unfold Row.lies
   simp only
   refine ⟨by rw [prs_length, List.length_map, Array.length_toList, hd's, hm], .inr ⟨blk, c, _, rfl, hb, hheap, hnc, hcm, ?_, ?_⟩⟩
   ·simp only [putCells, Array.size_mapIdx]
    exact hcs
   ·have hf := flatK_prs d'
    rw [← hf]
    have hfs : (flatK encP 2 d').size = m * 2 := by rw [size_flatK, hd's, hm]
    apply List.ext_getElem?
    intro t
    rw [List.getElem?_take]
    split
    ·rename_i htm
     have htc : t < cur.size := by
      have : m * 2 ≤ c * 2 := Nat.mul_le_mul_right _ hnc
      omega
     rw [Array.getElem?_toList, Array.getElem?_toList, Array.getElem?_eq_getElem (by simp [putCells]; exact htc), Array.getElem?_eq_getElem (by rw [hfs]; exact htm)]
     simp only [putCells, Array.getElem_mapIdx, id]
     rw [if_pos ⟨Nat.zero_le _, by rw [Nat.zero_add, hfs]; exact htm⟩, Nat.sub_zero, getElem!_pos _ t (by rw [hfs]; exact htm)]
    ·rename_i htm
     rw [List.getElem?_eq_none (by rw [Array.length_toList, hfs]; omega)]
 ·have e1 : (d'.extract 0 m).toList = d'.toList := by rw [show m = d'.size by omega]; simp
  have e2 : (d.extract 0 m).toList = d.toList := by rw [show m = d.size by omega]; simp
  rw [e1, e2] at hperm
  have := hperm.map Subtype.val
  rwa [hdv] at this
 ·refine List.pairwise_map.2 (List.pairwise_iff_getElem.2 fun a b ha hb' hab => ?_)
  rw [Array.length_toList] at ha hb'
  have h1 := hsort a b (Nat.zero_le _) hab (by omega)
  rw [getElem!_pos d' a ha, getElem!_pos d' b hb'] at h1
  simp only [ltOf, decide_eq_false_iff_not] at h1
  simpa using h1
end
end Go.Eng

/-! ## E26 -/
namespace Go.Eng
open Go Go.RowKit Go.Proofs Go.Sort
section
variable {P : Program} {B : Nat} {w0 : World} {R : List Row}
/-- What the kit's contract says at elements of k cells; at none; at elements of one cell. -/
def SortsK (P : Program) (f g : Nat) (cb : Array Value) (k : Nat) : Prop :=
 ∀ (α : Type) [Inhabited α] (enc : α → List Value) (_ : ∀ x, (enc x).length = k) (_ : ∀ x, ∀ v ∈ enc x, v.oneCell' = true) (cf : α → α → Int) (_ : SWO (ltOf cf)) (blk off cap : Nat) (d : Array α) (w : World)
  (_ : CmpLays P g cb enc k cf blk off d.size w) (_ : HoldsK enc k w blk off d) (_ : blk < w.heap.size) (_ : d.size < 4611686018427387904),
  Calls P f #[.slice (some ⟨blk, off, none⟩) d.size cap, .func (.func g) #[] cb] w fun e w' => e = .returned (.tuple #[]) ∧ ∃ d' n os, PermIn 0 d.size d d' ∧ SortedIn (ltOf cf) 0 d.size d' ∧ w' = sortWorldK enc k w blk off n d' os
def SortsC (P : Program) (f g : Nat) (cb : Array Value) : Prop :=
 ∀ (α : Type) [Inhabited α] (enc : α → Value) (_ : OneCell enc) (cf : α → α → Int) (_ : SWO (ltOf cf)) (blk off cap : Nat) (d : Array α) (w : World)
  (_ : CmpLays1 P g cb enc cf blk off d.size w) (_ : Holds enc w blk off d) (_ : blk < w.heap.size) (_ : d.size < 4611686018427387904),
  Calls P f #[.slice (some ⟨blk, off, none⟩) d.size cap, .func (.func g) #[] cb] w fun e w' => e = .returned (.tuple #[]) ∧ ∃ d' n os, PermIn 0 d.size d d' ∧ SortedIn (ltOf cf) 0 d.size d' ∧ w' = sortWorld enc w blk off n d' os
def SortsNone (P : Program) (f : Nat) : Prop := ∀ (p : Option Addr) (cap : Nat) (fv : Value) (w : World), Calls P f #[.slice p 0 cap, fv] w fun e w' => e = .returned (.tuple #[]) ∧ w' = w
/-- A row put anew. -/
theorem Hp.putRow {w : World} (hw : Hp B w0 w R) {i T k m c blk : Nat} {vs : List Value} (hi : R[i]? = some ⟨T, k, some ⟨blk, 0, none⟩, m, c, vs, false⟩) (xs : Array Value) (hxs : xs.size = m * k) (n : Nat) (os : Array Obj) :
  Hp B w0 (grow (putRow id (Sort.ahead w n) blk 0 xs) os) (R.set i ⟨T, k, some ⟨blk, 0, none⟩, m, c, xs.toList, false⟩) ∧ Hp B w0 (grow (putRow id (Sort.ahead w n) blk 0 xs) os) (R.eraseIdx i) := by
 have hown := Row.lies_w (hw.own _ (List.mem_of_getElem? hi)) rfl
 rcases hown.2 with ⟨hv, hn⟩ | ⟨g, cap, cur, hv, hb, hg, hnc, hcm, hcs, ht⟩
 ·simp at hv
 simp only [Value.slice.injEq, Option.some.injEq, Addr.mk.injEq, and_true, true_and] at hv
 obtain ⟨rfl, rfl⟩ := hv
 simp only at ht hcs hg hnc hb
 have hlt : blk < w.heap.size := (Array.getElem?_eq_some_iff.1 hg).1
 have hsz : w.heap.size ≤ (grow (Go.Sort.putRow id (Sort.ahead w n) blk 0 xs) os).heap.size := by
  rw [size_grow, Go.Sort.size_putRow]
  exact Nat.le_add_right _ _
 have hk : ∀ k, k < w.heap.size → blk ≠ k → (grow (Go.Sort.putRow id (Sort.ahead w n) blk 0 xs) os).heap[k]? = w.heap[k]? := by
  intro k hk hbk
  rw [heap_grow_old _ _ (by rw [Go.Sort.size_putRow]; exact hk)]
  simp [Go.Sort.putRow, mapBlock, Array.getElem?_modify, hbk, Sort.ahead]
 have hheap : (grow (Go.Sort.putRow id (Sort.ahead w n) blk 0 xs) os).heap[blk]? = some (.cells (putCells id 0 xs cur) T (0, 0)) := by
  rw [heap_grow_old _ _ (by rw [Go.Sort.size_putRow]; exact hlt)]
  simp [Go.Sort.putRow, mapBlock, Array.getElem?_modify, Sort.ahead, hg, onCells]
 refine ⟨?_, hw.but hi rfl rfl rfl (by show w.drawn ≤ w.drawn + n; omega) hsz fun k h1 h2 => hk k h1 (h2 _ rfl)⟩
 refine hw.upd hi (row := some blk) ⟨rfl, rfl, rfl, hsz, fun k h1 hne => hk k h1 fun e => hne (by rw [e])⟩ ?_ (fun k hk => ?_) ?_ (fun a' ha' => .inl ⟨a', ha', rfl⟩)
 ·show w.drawn ≤ w.drawn + n
  omega
 ·obtain rfl := Option.some.inj hk
  exact ⟨_, rfl, rfl⟩
 ·unfold Row.lies
  simp only
  refine ⟨by rw [Array.length_toList, hxs], .inr ⟨blk, c, _, rfl, hb, hheap, hnc, hcm, ?_, ?_⟩⟩
  ·simp only [putCells, Array.size_mapIdx]
   exact hcs
  ·apply List.ext_getElem?
   intro t
   rw [List.getElem?_take]
   split
   ·rename_i htm
    have htc : t < cur.size := by
     have : m * k ≤ c * k := Nat.mul_le_mul_right _ hnc
     omega
    rw [Array.getElem?_toList, Array.getElem?_toList, Array.getElem?_eq_getElem (by simp [putCells]; exact htc), Array.getElem?_eq_getElem (by rw [hxs]; exact htm)]
    simp only [putCells, Array.getElem_mapIdx, id]
    rw [if_pos ⟨Nat.zero_le _, by rw [Nat.zero_add, hxs]; exact htm⟩, Nat.sub_zero, getElem!_pos _ t (by rw [hxs]; exact htm)]
   ·rename_i htm
    rw [List.getElem?_eq_none (by rw [Array.length_toList, hxs]; omega)]
theorem flatK_list {α : Type} [Inhabited α] {enc : α → List Value} {k : Nat} (hk : ∀ x, (enc x).length = k) (d : Array α) : (flatK enc k d).toList = d.toList.flatMap enc := by
 have hlen : ∀ l : List α, (l.flatMap enc).length = l.length * k := fun l => by
  induction l with
  | nil => simp
  | cons x l ih => rw [List.flatMap_cons, List.length_append, ih, hk, List.length_cons, Nat.add_mul]; omega
 have hget : ∀ (l : List α) (t : Nat) (x : α), 0 < k → l[t / k]? = some x → (l.flatMap enc)[t]? = (enc x)[t % k]? := fun l => by
  induction l with
  | nil => intro t x _ h; simp at h
  | cons y l ih =>
   intro t x k0 h
   rw [List.flatMap_cons]
   rcases Nat.lt_or_ge t k with g | g
   ·rw [Nat.div_eq_of_lt g] at h
    simp only [List.getElem?_cons_zero, Option.some.injEq] at h
    subst h
    rw [List.getElem?_append_left (by rw [hk]; exact g), Nat.mod_eq_of_lt g]
   ·have e : t / k = (t - k) / k + 1 := by
     rw [← Nat.sub_add_cancel g, Nat.add_div_right _ k0]
     simp
    rw [e, List.getElem?_cons_succ] at h
    rw [List.getElem?_append_right (by rw [hk]; exact g), hk, ih (t - k) x k0 h, ← Nat.mod_eq_sub_mod g]
 apply List.ext_getElem?
 intro t
 have hs : (flatK enc k d).size = d.size * k := size_flatK _ _ _
 rcases Nat.lt_or_ge t (d.size * k) with h | h
 ·have k0 : 0 < k := Nat.pos_of_ne_zero fun e => by subst e; simp at h
  have hdk : t / k < d.size := Nat.div_lt_of_lt_mul (by rw [Nat.mul_comm]; exact h)
  have e1 : (flatK enc k d)[t]? = some ((flatK enc k d)[t]!) := by
   rw [Array.getElem?_eq_getElem (by rw [hs]; exact h), getElem!_pos _ t (by rw [hs]; exact h)]
  rw [Array.getElem?_toList, e1, get_flatK enc k d t h, hget d.toList t d[t / k] k0 (by rw [Array.getElem?_toList, Array.getElem?_eq_getElem hdk]), getElem!_pos d _ hdk]
  have hm : t % k < (enc d[t / k]).length := by rw [hk]; exact Nat.mod_lt _ k0
  rw [List.getElem?_eq_getElem hm, getElem!_pos (enc d[t / k]) (t % k) hm]
 ·rw [List.getElem?_eq_none (by rw [Array.length_toList, hs]; exact h), List.getElem?_eq_none (by rw [hlen, Array.length_toList]; exact h)]
theorem flat_len {α : Type} {enc : α → List Value} {k : Nat} (hk : ∀ x, (enc x).length = k) (l : List α) : (l.flatMap enc).length = l.length * k := by
 induction l with
 | nil => simp
 | cons x l ih => rw [List.flatMap_cons, List.length_append, ih, hk, List.length_cons, Nat.add_mul]; omega
theorem perm_of_permIn {α : Type} [Inhabited α] {d d' : Array α} (h : PermIn 0 d.size d d') : d'.toList.Perm d.toList := by
 obtain ⟨hs, _, hp⟩ := h
 have e1 : (d'.extract 0 d.size).toList = d'.toList := by rw [← hs]; simp
 have e2 : (d.extract 0 d.size).toList = d.toList := by simp
 rw [e1, e2] at hp
 exact hp
theorem sortedIn_list {α : Type} [Inhabited α] {cf : α → α → Int} {d' : Array α} {n : Nat} (h : SortedIn (ltOf cf) 0 n d') (hn : d'.size = n) : d'.toList.Pairwise fun x y => ¬ cf y x < 0 := by
 refine List.pairwise_iff_getElem.2 fun a b ha hb' hab => ?_
 rw [Array.length_toList] at ha hb'
 have h1 := h a b (Nat.zero_le _) hab (by omega)
 rw [getElem!_pos d' a ha, getElem!_pos d' b hb'] at h1
 simp only [ltOf, decide_eq_false_iff_not] at h1
 simpa using h1
theorem nil_row {w : World} (hw : Hp B w0 w R) {i T k c : Nat} {A : Option Addr} {vs : List Value} (hi : R[i]? = some ⟨T, k, A, 0, c, vs, false⟩) : R.set i ⟨T, k, A, 0, c, [], false⟩ = R ∧ vs = [] := by
 have hown := Row.lies_w (hw.own _ (List.mem_of_getElem? hi)) rfl
 have hl := hown.1
 simp only [Nat.zero_mul] at hl
 obtain rfl := List.eq_nil_of_length_eq_zero hl
 refine ⟨?_, rfl⟩
 apply List.ext_getElem?
 intro j
 rw [List.getElem?_set]
 split
 ·rename_i h
  subst h
  split
  ·exact hi.symm
  ·rename_i h2
   rw [List.getElem?_eq_none (by omega)]
 ·rfl
/-- slices.SortFunc over elements of some cells. -/
theorem sort_cells {α : Type} {f g k : Nat} {cb : Array Value} {enc : α → List Value} (hSF : SortsK P f g cb k) (hS0 : SortsNone P f) (hk : ∀ x, (enc x).length = k) (h1 : ∀ x, ∀ v ∈ enc x, v.oneCell' = true) {T c : Nat} {A : Option Addr} {l : List α} (i : Nat) (hi : R[i]? = some ⟨T, k, A, l.length, c, l.flatMap enc, false⟩) (hsz : l.length < 4611686018427387904) (cmp : α → α → Int) (hO : SWO (ltOf cmp))
  (hclo : ∀ W, Hp B w0 W (R.eraseIdx i) → ∀ x ∈ l, ∀ y ∈ l,
   Ct P g (#[.agg (enc x).toArray, .agg (enc y).toArray] ++ cb) W.heap.size W [] (fun v _ => v = .int .i64 (cmp x y))) :
  Ct P f #[.slice A l.length c, .func (.func g) #[] cb] B w0 R (fun v R' => v = .tuple #[] ∧ ∃ l' : List α, l'.Perm l ∧ l'.Pairwise (fun x y => ¬ cmp y x < 0) ∧ R' = R.set i ⟨T, k, A, l'.length, c, l'.flatMap enc, false⟩) := by
 intro w hw
 rcases l with _ | ⟨x0, l0⟩
 ·refine (hS0 A c _ w).mono ?_
  rintro e w' ⟨rfl, rfl⟩
  obtain ⟨h1, h2⟩ := nil_row hw hi
  exact ⟨_, _, rfl, hw, rfl, [], .refl _, .nil, h1.symm⟩
 generalize hl : x0 :: l0 = l at *
 have hpos : 0 < l.length := by rw [← hl]; simp
 have hown := Row.lies_w (hw.own _ (List.mem_of_getElem? hi)) rfl
 rcases hown.2 with ⟨_, hn⟩ | ⟨blk, cap, cur, hv, hb, hg, hnc, hcm, hcs, ht⟩
 ·simp only at hn; omega
 simp only [Value.slice.injEq, true_and] at hv
 obtain ⟨rfl, rfl⟩ := hv
 simp only at ht hcs hg hnc
 haveI : Inhabited { p : α // p ∈ l } := ⟨⟨l[0], List.getElem_mem _⟩⟩
 obtain ⟨d, hd⟩ : ∃ d : Array { p : α // p ∈ l }, d = l.attach.toArray := ⟨_, rfl⟩
 have hds : d.size = l.length := by rw [hd]; simp
 have hdv : d.toList.map Subtype.val = l := by rw [hd]; exact List.attach_map_subtype_val l
 have hk2 : ∀ x : { p : α // p ∈ l }, (enc x.1).length = k := fun x => hk x.1
 have hfm : ∀ e : List { p : α // p ∈ l }, e.flatMap (fun x => enc x.1) = (e.map Subtype.val).flatMap enc := fun e => by rw [List.flatMap_map]
 have hlt : blk < w.heap.size := (Array.getElem?_eq_some_iff.1 hg).1
 have hH : HoldsK (fun x : { p : α // p ∈ l } => enc x.1) k w blk 0 d := by
  intro j hj
  have hj' : j < l.length * k := by
   have : j < (flatK (fun x : { p : α // p ∈ l } => enc x.1) k d).size := hj
   rw [size_flatK, hds] at this
   exact this
  have hf := flatK_list hk2 d
  rw [hfm, hdv] at hf
  have e : (l.flatMap enc)[j]? = some ((flatK (fun x : { p : α // p ∈ l } => enc x.1) k d)[j]!) := by
   rw [← hf, Array.getElem?_toList, Array.getElem?_eq_getElem hj, getElem!_pos _ j hj]
  refine ⟨?_, ?_⟩
  ·rw [Nat.zero_add]
   exact hw.cellAt i hi rfl e
  ·exact hw.openAt i (0 + j) hi rfl rfl
 have hcmp : CmpLays P g cb (fun x : { p : α // p ∈ l } => enc x.1) k (fun x y => cmp x.1 y.1) blk 0 d.size w := by
  intro m' os dk hdk x y
  have hW := (hw.putRow hi (flatK (fun x : { p : α // p ∈ l } => enc x.1) k dk) (by rw [size_flatK, hdk, hds]) m' os).2
  refine (hclo (sortWorldK (fun x : { p : α // p ∈ l } => enc x.1) k w blk 0 m' dk os) hW x.1 x.2 y.1 y.2 _ (Hp.refl _)).mono ?_
  rintro e w' ⟨v, R', rfl, hh, rfl⟩
  exact ⟨rfl, grown_eq hh.below hh.late.1⟩
 have hO' : SWO (ltOf fun (x y : { p : α // p ∈ l }) => cmp x.1 y.1) := ⟨fun x => hO.irrefl x.1, fun x y z => hO.trans x.1 y.1 z.1, fun x y z => hO.ntrans x.1 y.1 z.1⟩
 have hcall := hSF _ (fun x : { p : α // p ∈ l } => enc x.1) hk2 (fun x => h1 x.1) _ hO' blk 0 c d w hcmp hH hlt (by rw [hds]; exact hsz)
 rw [hds] at hcall
 refine hcall.mono ?_
 rintro e w' ⟨rfl, d', n, os, hperm, hsort, rfl⟩
 rw [← hds] at hperm
 have hd's : d'.size = l.length := by rw [hperm.1, hds]
 have hW := (hw.putRow hi (flatK (fun x : { p : α // p ∈ l } => enc x.1) k d') (by rw [size_flatK, hd's]) n os).1
 rw [flatK_list hk2, hfm] at hW
 have hp' : (d'.toList.map Subtype.val).Perm l := by
  have := (perm_of_permIn hperm).map Subtype.val
  rwa [hdv] at this
 refine ⟨_, _, rfl, hW, rfl, d'.toList.map Subtype.val, hp', ?_, ?_⟩
 ·exact List.pairwise_map.2 (sortedIn_list hsort hd's)
 ·rw [hp'.length_eq]
/-- slices.SortFunc over elements of one cell. -/
theorem sort_cell1 {α : Type} {f g : Nat} {cb : Array Value} {enc : α → Value} (hSF : SortsC P f g cb) (hS0 : SortsNone P f) (h1 : ∀ x, (enc x).oneCell' = true) {T c : Nat} {A : Option Addr} {l : List α} (i : Nat) (hi : R[i]? = some ⟨T, 1, A, l.length, c, l.map enc, false⟩) (hsz : l.length < 4611686018427387904) (cmp : α → α → Int) (hO : SWO (ltOf cmp))
  (hclo : ∀ W, Hp B w0 W (R.eraseIdx i) → ∀ x ∈ l, ∀ y ∈ l,
   Ct P g (#[enc x, enc y] ++ cb) W.heap.size W [] (fun v _ => v = .int .i64 (cmp x y))) :
  Ct P f #[.slice A l.length c, .func (.func g) #[] cb] B w0 R (fun v R' => v = .tuple #[] ∧ ∃ l' : List α, l'.Perm l ∧ l'.Pairwise (fun x y => ¬ cmp y x < 0) ∧ R' = R.set i ⟨T, 1, A, l'.length, c, l'.map enc, false⟩) := by
 intro w hw
 rcases l with _ | ⟨x0, l0⟩
 ·refine (hS0 A c _ w).mono ?_
  rintro e w' ⟨rfl, rfl⟩
  obtain ⟨h1, h2⟩ := nil_row hw hi
  exact ⟨_, _, rfl, hw, rfl, [], .refl _, .nil, h1.symm⟩
 generalize hl : x0 :: l0 = l at *
 have hpos : 0 < l.length := by rw [← hl]; simp
 have hown := Row.lies_w (hw.own _ (List.mem_of_getElem? hi)) rfl
 rcases hown.2 with ⟨_, hn⟩ | ⟨blk, cap, cur, hv, hb, hg, hnc, hcm, hcs, ht⟩
 ·simp only at hn; omega
 simp only [Value.slice.injEq, true_and] at hv
 obtain ⟨rfl, rfl⟩ := hv
 simp only at ht hcs hg hnc
 haveI : Inhabited { p : α // p ∈ l } := ⟨⟨l[0], List.getElem_mem _⟩⟩
 obtain ⟨d, hd⟩ : ∃ d : Array { p : α // p ∈ l }, d = l.attach.toArray := ⟨_, rfl⟩
 have hds : d.size = l.length := by rw [hd]; simp
 have hdv : d.toList.map Subtype.val = l := by rw [hd]; exact List.attach_map_subtype_val l
 have hlt : blk < w.heap.size := (Array.getElem?_eq_some_iff.1 hg).1
 have hput : ∀ (W : World) (dk : Array { p : α // p ∈ l }), putRow (fun x : { p : α // p ∈ l } => enc x.1) W blk 0 dk = putRow id W blk 0 (dk.map fun x => enc x.1) := by
  intro W dk
  unfold putRow
  congr 1
  funext cs
  unfold putCells
  apply Array.ext
  ·simp
  ·intro j h1 h2
   simp only [Array.getElem_mapIdx, Array.size_map, id, Nat.sub_zero, Nat.zero_add]
   split
   ·rename_i hc
    rw [getElem!_pos dk j hc.2, getElem!_pos (dk.map fun x => enc x.1) j (by simpa using hc.2)]
    simp
   ·rfl
 have hH : Holds (fun x : { p : α // p ∈ l } => enc x.1) w blk 0 d := by
  intro j hj
  have hj' : j < l.length := by rw [← hds]; exact hj
  have e : (l.map enc)[j]? = some (enc d[j]!.1) := by
   have e0 : (d.toList.map fun x => enc x.1) = l.map enc := by
    conv => rhs; rw [← hdv]
    rw [List.map_map]
    rfl
   rw [← e0, List.getElem?_map, Array.getElem?_toList, Array.getElem?_eq_getElem hj, getElem!_pos d j hj]
   rfl
  refine ⟨?_, ?_⟩
  ·rw [Nat.zero_add]
   exact hw.cellAt i hi rfl e
  ·exact hw.openAt i (0 + j) hi rfl rfl
 have hcmp : CmpLays1 P g cb (fun x : { p : α // p ∈ l } => enc x.1) (fun x y => cmp x.1 y.1) blk 0 d.size w := by
  intro m' os dk hdk x y
  have hW := (hw.putRow hi (dk.map fun x => enc x.1) (by simp [hdk, hds]) m' os).2
  rw [← hput] at hW
  refine (hclo (sortWorld (fun x : { p : α // p ∈ l } => enc x.1) w blk 0 m' dk os) hW x.1 x.2 y.1 y.2 _ (Hp.refl _)).mono ?_
  rintro e w' ⟨v, R', rfl, hh, rfl⟩
  exact ⟨rfl, grown_eq hh.below hh.late.1⟩
 have hO' : SWO (ltOf fun (x y : { p : α // p ∈ l }) => cmp x.1 y.1) := ⟨fun x => hO.irrefl x.1, fun x y z => hO.trans x.1 y.1 z.1, fun x y z => hO.ntrans x.1 y.1 z.1⟩
 have hcall := hSF _ (fun x : { p : α // p ∈ l } => enc x.1) (fun x => h1 x.1) _ hO' blk 0 c d w hcmp hH hlt (by rw [hds]; exact hsz)
 rw [hds] at hcall
 refine hcall.mono ?_
 rintro e w' ⟨rfl, d', n, os, hperm, hsort, rfl⟩
 rw [← hds] at hperm
 have hd's : d'.size = l.length := by rw [hperm.1, hds]
 have hW := (hw.putRow hi (d'.map fun x => enc x.1) (by simp [hd's]) n os).1
 rw [← hput] at hW
 have hp' : (d'.toList.map Subtype.val).Perm l := by
  have := (perm_of_permIn hperm).map Subtype.val
  rwa [hdv] at this
 have em : (d'.map fun x => enc x.1).toList = (d'.toList.map Subtype.val).map enc := by simp
 rw [em] at hW
 refine ⟨_, _, rfl, hW, rfl, d'.toList.map Subtype.val, hp', ?_, ?_⟩
 ·exact List.pairwise_map.2 (sortedIn_list hsort hd's)
 ·rw [hp'.length_eq]
end
end Go.Eng

/-! ## Q37 -/
namespace Go.Pure
open Go Go.Eng
def Bd (u : List Int) (n k : Nat) : Prop := k < n ∧ ∀ e, e < k → lt u e = lt u (n - k + e)
def MB (u : List Int) (n : Nat) (k : Int) : Prop := 0 ≤ k ∧ Bd u n k.toNat ∧ ∀ q : Nat, Bd u n q → (q : Int) ≤ k
def KI (u : List Int) (i : Nat) (n : Int) : Prop := 0 ≤ n ∧ Bd u i n.toNat ∧ ∀ q : Nat, Bd u i q → n < q → lt u q ≠ lt u i
variable {u : List Int}
theorem MB.one : MB u 1 0 := ⟨by omega, ⟨by omega, fun e he => by simp at he⟩, fun q h => by have := h.1; omega⟩
theorem MB.bd {n : Nat} {k : Int} (h : MB u n k) : 0 ≤ k ∧ k < n := ⟨h.1, by have := h.2.1.1; have := h.1; omega⟩
theorem KI.bd {n : Nat} {k : Int} (h : KI u n k) : 0 ≤ k ∧ k < n := ⟨h.1, by have := h.2.1.1; have := h.1; omega⟩
theorem KI.init {i : Nat} {n : Int} (h : MB u i n) : KI u i n := ⟨h.1, h.2.1, fun q hq hn => by have := h.2.2 q hq; omega⟩
theorem KI.step {i : Nat} {n m : Int} (h : KI u i n) (hne : lt u n.toNat ≠ lt u i) (hb : MB u n.toNat m) : KI u i m := by
 obtain ⟨h0, ⟨h1, h2⟩, h3⟩ := h
 obtain ⟨g0, ⟨g1, g2⟩, g3⟩ := hb
 refine ⟨g0, ⟨by omega, fun e he => ?_⟩, fun q hq hmq => ?_⟩
 ·rw [g2 e he, h2 (n.toNat - m.toNat + e) (by omega)]
  congr 1
  omega
 ·rcases Nat.lt_trichotomy q n.toNat with a | a | a
  ·have : Bd u n.toNat q := ⟨a, fun e he => by
    rw [hq.2 e he, h2 (n.toNat - q + e) (by omega)]
    congr 1
    omega⟩
   have := g3 q this
   omega
  ·subst a; exact hne
  ·exact h3 q hq (by omega)
theorem KI.hit {i : Nat} {n : Int} (h : KI u i n) (he : lt u n.toNat = lt u i) : MB u (i + 1) (n + 1) := by
 obtain ⟨h0, ⟨h1, h2⟩, h3⟩ := h
 refine ⟨by omega, ⟨by omega, fun e hE => ?_⟩, fun q hq => ?_⟩
 ·rcases Nat.lt_or_ge e n.toNat with a | a
  ·rw [h2 e a]; congr 1; omega
  ·obtain rfl : e = n.toNat := by omega
   rw [he]; congr 1; omega
 ·rcases q with _ | q
  ·omega
  ·have hb : Bd u i q := ⟨by have := hq.1; omega, fun e hE => by rw [hq.2 e (by omega)]; congr 1; omega⟩
   have hl := hq.2 q (by omega)
   have := hq.1
   rw [show i + 1 - (q + 1) + q = i by omega] at hl
   rcases Int.lt_or_le n q with a | a
   ·exact absurd hl (h3 q hb a)
   ·omega
theorem KI.miss {i : Nat} {n : Int} (h : KI u i n) (hn : n ≤ 0) (he : lt u n.toNat ≠ lt u i) : MB u (i + 1) n := by
 obtain ⟨h0, ⟨h1, h2⟩, h3⟩ := h
 obtain rfl : n = 0 := by omega
 refine ⟨by omega, ⟨by omega, fun e hE => by simp at hE⟩, fun q hq => ?_⟩
 rcases q with _ | q
 ·omega
 ·have hb : Bd u i q := ⟨by have := hq.1; omega, fun e hE => by rw [hq.2 e (by omega)]; congr 1; omega⟩
  have hl := hq.2 q (by omega)
  have := hq.1
  rw [show i + 1 - (q + 1) + q = i by omega] at hl
  rcases Nat.eq_zero_or_pos q with a | a
  ·subst a; exact absurd hl he
  ·exact absurd hl (h3 q hb (by omega))
theorem bd_perL {n k : Nat} (hn : n = u.length) (hk : k < n) : Bd u n k ↔ PerL u (n - k) := by
 subst hn
 rw [perL_iff]
 constructor
 ·intro h i hi
  have := h.2 i (by omega)
  unfold lt at this
  rw [this]; congr 1; omega
 ·intro h
  refine ⟨hk, fun e he => ?_⟩
  have := h e (by omega)
  unfold lt
  rw [← this]; congr 1; omega
theorem MB.least {k : Int} (hn : 0 < u.length) (h : MB u u.length k) : (u.length : Int) - k = lp u := by
 obtain ⟨r, e, r1, r2, hp, hmin⟩ := lp_spec hn
 obtain ⟨k0, hb, hmax⟩ := h
 have hb1 := hb.1
 have h1 := hmax (u.length - r) ((bd_perL rfl (by omega)).2 (by rw [show u.length - (u.length - r) = r by omega]; exact hp))
 have h2 := (bd_perL rfl hb.1).1 hb
 rcases Nat.lt_or_ge (u.length - k.toNat) r with a | a
 ·exact absurd h2 (hmin _ (by omega) a)
 ·omega
theorem cmpL_anti : ∀ a b : List Int, cmpL b a = -cmpL a b
 | [], [] => rfl
 | [], _ :: _ => rfl
 | _ :: _, [] => rfl
 | x :: a, y :: b => by
  rw [cmpL, cmpL, cmpL_anti a b]
  split <;> split <;> omega
theorem cmpL_eq : ∀ a b : List Int, cmpL a b = 0 ↔ a = b
 | [], [] => by simp [cmpL]
 | [], _ :: _ => by simp [cmpL]
 | _ :: _, [] => by simp [cmpL]
 | x :: a, y :: b => by
  have ih := cmpL_eq a b
  rw [cmpL]
  split
  ·simp; omega
  ·split
   ·simp; omega
   ·rw [ih]; simp; omega
theorem cmpL_le : ∀ a b c : List Int, cmpL a b ≤ 0 → cmpL b c ≤ 0 → cmpL a c ≤ 0
 | [], [], _, _, h => h
 | [], _ :: _, [], _, h => by simp [cmpL] at h
 | [], _ :: _, _ :: _, _, _ => by simp [cmpL]
 | _ :: _, [], _, h, _ => by simp [cmpL] at h
 | _ :: _, _ :: _, [], _, h => by simp [cmpL] at h
 | x :: a, y :: b, z :: c, h1, h2 => by
  have ih := cmpL_le a b c
  rw [cmpL] at h1 h2 ⊢
  split at h1
  ·split at h2
   ·rw [if_pos (by omega)]; omega
   ·split at h2
    ·omega
    ·rw [if_pos (by omega)]; omega
  ·split at h1
   ·omega
   ·split at h2
    ·rw [if_pos (by omega)]; omega
    ·split at h2
     ·omega
     ·rw [if_neg (by omega), if_neg (by omega)]; exact ih h1 h2
abbrev RT := List Int × Int
def kcmp (a b : RT) : Int := if cmpL a.1 b.1 ≠ 0 then cmpL a.1 b.1 else cmpI a.2 b.2
theorem kcmp_anti (a b : RT) : kcmp b a = -kcmp a b := by
 unfold kcmp
 rw [cmpL_anti a.1 b.1, cmpI_anti a.2 b.2]
 split <;> split <;> omega
theorem kcmp_eq (a b : RT) : kcmp a b = 0 ↔ a = b := by
 unfold kcmp
 have h1 := cmpL_eq a.1 b.1
 have h2 := @cmpI_zero a.2 b.2
 rw [Prod.ext_iff]
 split
 ·rename_i c
  constructor
  ·intro h; exact absurd h c
  ·intro h; exact absurd (h1.2 h.1) c
 ·rename_i c
  rw [h2]
  constructor
  ·intro h; exact ⟨h1.1 (by omega), h⟩
  ·intro h; exact h.2
theorem cmpI_le {a b : Int} : cmpI a b ≤ 0 ↔ a ≤ b := by unfold cmpI; split <;> (try split) <;> omega
theorem kcmp_le_iff {a b : RT} : kcmp a b ≤ 0 ↔ cmpL a.1 b.1 < 0 ∨ a.1 = b.1 ∧ a.2 ≤ b.2 := by
 unfold kcmp
 have h1 := cmpL_eq a.1 b.1
 have h2 := @cmpI_le a.2 b.2
 split
 ·rename_i c
  constructor
  ·intro h; left; omega
  ·rintro (h | h)
   ·omega
   ·exact absurd (h1.2 h.1) c
 ·rename_i c
  rw [h2]
  constructor
  ·intro h; exact .inr ⟨h1.1 (by omega), h⟩
  ·rintro (h | h)
   ·omega
   ·exact h.2
theorem kcmp_le (a b c : RT) (h1 : kcmp a b ≤ 0) (h2 : kcmp b c ≤ 0) : kcmp a c ≤ 0 := by
 rw [kcmp_le_iff] at h1 h2 ⊢
 have h := cmpL_le a.1 b.1 c.1
 have e1 := cmpL_eq a.1 b.1
 have e2 := cmpL_eq b.1 c.1
 have e3 := cmpL_eq a.1 c.1
 rcases h1 with h1 | h1
 ·rcases h2 with h2 | h2
  ·have a1 := h (by omega) (by omega)
   rcases Int.lt_or_eq_of_le a1 with g | g
   ·exact .inl g
   ·have e := e3.1 g
    rw [e, cmpL_anti b.1 c.1] at h1
    omega
  ·exact .inl (by rw [← h2.1]; exact h1)
 ·rcases h2 with h2 | h2
  ·exact .inl (by rw [h1.1]; exact h2)
  ·exact .inr ⟨h1.1.trans h2.1, by omega⟩
theorem kcmp_sorted_one {l m : List RT} (hp : l.Perm m) (hl : l.Pairwise fun a b => kcmp a b ≤ 0) (hm : m.Pairwise fun a b => kcmp a b ≤ 0) : l = m :=
 hp.eq_of_pairwise (fun a b _ _ h1 h2 => (kcmp_eq a b).1 (by rw [kcmp_anti a b] at h2; omega)) hl hm
def lw (u : List Int) : List Int := turnS u (lrot u)
def rootW (c : List Int) : List Int := c.take (rl c).toNat
def timesW (c : List Int) : Int := (c.length : Int) / rl c
def ringOf (u : List Int) : RT := (rootW (lw u), timesW (lw u))
def ringsOf (ws : List (List Int)) : List RT := (ws.filter fun w => decide (0 < w.length)).map ringOf
def ringS (ws : List (List Int)) : List RT := (ringsOf ws).mergeSort fun a b => decide (kcmp a b ≤ 0)
def unring (r : RT) : List Int := rep r.1 r.2
def canon (ws : List (List Int)) : List (List Int) := (ringS ws).map unring
theorem ringS_perm (ws : List (List Int)) : (ringS ws).Perm (ringsOf ws) := List.mergeSort_perm _ _
theorem ringS_sorted (ws : List (List Int)) : (ringS ws).Pairwise fun a b => kcmp a b ≤ 0 := by
 have := List.pairwise_mergeSort (le := fun a b : RT => decide (kcmp a b ≤ 0)) (fun a b c h1 h2 => decide_eq_true (kcmp_le a b c (of_decide_eq_true h1) (of_decide_eq_true h2))) (fun a b => by
  rw [Bool.or_eq_true, decide_eq_true_eq, decide_eq_true_eq, kcmp_anti a b]; omega) (ringsOf ws)
 exact this.imp fun h => of_decide_eq_true h
theorem ringS_one {ws : List (List Int)} {l : List RT} (hp : l.Perm (ringsOf ws)) (hs : l.Pairwise fun a b => kcmp a b ≤ 0) : l = ringS ws := kcmp_sorted_one (hp.trans (ringS_perm ws).symm) hs (ringS_sorted ws)
theorem ringS_congr {ws xs : List (List Int)} (hp : (ringsOf ws).Perm (ringsOf xs)) : ringS ws = ringS xs := ringS_one ((ringS_perm ws).trans hp) (ringS_sorted ws)
theorem lw_len (u : List Int) : (lw u).length = u.length := turnS_len u _
theorem lw_nil : lw [] = [] := rfl
theorem rot_turn {r : Nat} (hr : r ≤ u.length) (hn : 0 < u.length) : om (turnS u r) = rot u r := by
 have h1 := om_per (turnS u r)
 rw [turnS_len] at h1
 funext d
 rw [← h1.mod d, ← (rot_per (s := u) r).mod d]
 have hd := Nat.mod_lt d hn
 have := turnS_at hr hd
 rw [om_lt (by rw [turnS_len]; exact hd)]
 rw [show ((r : Nat) : Int) = (r : Int) from rfl] at *
 exact this
theorem rot_rot {r q : Nat} (hr : r ≤ u.length) (hn : 0 < u.length) : rot (turnS u r) q = rot u (r + q) := by
 funext d
 show om (turnS u r) (q + d) = om u (r + q + d)
 rw [rot_turn hr hn]
 show om u (r + (q + d)) = _
 rw [Nat.add_assoc]
/-- The least rotation's own least rotation is itself. -/
theorem lrot_lw (u : List Int) : lrot (lw u) = 0 := by
 rcases Nat.eq_zero_or_pos u.length with z | z
 ·rw [List.eq_nil_of_length_eq_zero z]; rfl
 ·have hl := lw_len u
  have fl := lrot_FL z
  have hb : lrotK u u.length ≤ u.length := by have := fl.lt; omega
  have e : lw u = turnS u (lrotK u u.length : Nat) := rfl
  have f2 : FL (lw u) 0 := ⟨by omega, fun r hr => by
   rw [e, rot_rot hb z, rot_rot hb z]
   exact fl.any _, fun r hr => by omega⟩
  have f3 := lrot_FL (s := lw u) (by omega)
  have := f3.one f2
  unfold lrot
  omega
/-- Words are one if they are asx long and one without end. -/
theorem om_ext {a b : List Int} (hl : a.length = b.length) (h : om a = om b) : a = b := by
 refine list_ext_rd hl fun j h0 h1 => ?_
 have := congrFun h j.toNat
 rw [om_lt (by omega), om_lt (by omega)] at this
 exact this
theorem rl_dvd {c : List Int} (h : 0 < c.length) : (c.length : Int) % rl c = 0 := by
 obtain ⟨r, e, r1, r2, _, _⟩ := lp_spec h
 unfold rl
 split
 ·exact Int.emod_self
 ·omega
theorem root_len {c : List Int} (h : 0 < c.length) : ((rootW c).length : Int) = rl c := by
 have := rl_range h
 unfold rootW
 rw [List.length_take]
 omega
theorem times_mul {c : List Int} (h : 0 < c.length) : timesW c * rl c = c.length := Int.ediv_mul_cancel (Int.dvd_of_emod_eq_zero (rl_dvd h))
theorem times_pos {c : List Int} (h : 0 < c.length) : 0 < timesW c := by
 have h1 := times_mul h
 have h2 := rl_range h
 rcases Int.lt_or_le 0 (timesW c) with a | a
 ·exact a
 ·have := Int.mul_nonneg_of_nonpos_of_nonpos a (show -(rl c) ≤ 0 by omega)
  rw [Int.mul_neg] at this
  omega
theorem root_om {c : List Int} (h : 0 < c.length) : om (rootW c) = om c := by
 obtain ⟨r, e, r1, r2, ho, _⟩ := rl_spec h
 funext i
 rw [ho i]
 unfold rootW
 rw [e]
 rfl
theorem unring_root {c : List Int} (h : 0 < c.length) : rep (rootW c) (timesW c) = c := by
 have hr := root_len h
 have hp := rl_range h
 have ht := times_pos h
 have hl : (rep (rootW c) (timesW c)).length = c.length := by
  rw [rep_length]
  have h1 := times_mul h
  have : ((timesW c).toNat * (rootW c).length : Int) = c.length := by
   rw [Int.toNat_of_nonneg (by omega), hr, h1]
  exact_mod_cast this
 refine om_ext hl ?_
 rw [show timesW c = ((timesW c).toNat : Int) by omega]
 funext i
 rw [om_rep (by omega) (by omega), root_om h]
theorem unring_of {w : List Int} (h : 0 < w.length) : unring (ringOf w) = lw w := unring_root (by rw [lw_len]; exact h)
theorem mem_rings {ws : List (List Int)} {r : RT} (h : r ∈ ringsOf ws) : ∃ w ∈ ws, 0 < w.length ∧ r = ringOf w := by
 unfold ringsOf at h
 obtain ⟨w, hw, e⟩ := List.mem_map.1 h
 obtain ⟨h1, h2⟩ := List.mem_filter.1 hw
 exact ⟨w, h1, of_decide_eq_true h2, e.symm⟩
theorem mem_ringS {ws : List (List Int)} {r : RT} (h : r ∈ ringS ws) : ∃ w ∈ ws, 0 < w.length ∧ r = ringOf w := mem_rings ((ringS_perm ws).subset h)
theorem mem_canon {ws : List (List Int)} {c : List Int} (h : c ∈ canon ws) : ∃ w ∈ ws, 0 < w.length ∧ c = lw w := by
 obtain ⟨r, hr, rfl⟩ := List.mem_map.1 h
 obtain ⟨w, h1, h2, rfl⟩ := mem_ringS hr
 exact ⟨w, h1, h2, unring_of h2⟩
theorem ringsOf_append (a b : List (List Int)) : ringsOf (a ++ b) = ringsOf a ++ ringsOf b := by unfold ringsOf; rw [List.filter_append, List.map_append]
theorem canon_len (ws : List (List Int)) : (canon ws).length = (ringsOf ws).length := by
 unfold canon
 rw [List.length_map, (ringS_perm ws).length_eq]
end Go.Pure

/-! ## E27 -/
namespace Go.Eng
open Go Go.RowKit Go.Pure
section
variable {P : Program} {n : Nd} {B : Nat} {w0 : World} {L : Env} {R : List Row} {ty : TypeId}
theorem rd_isNone {w : World} {A : Option Addr} {m c : Nat} {k : IntKind} {u : List Int} (h : Rd w A m c 1 (ints k u)) (hA : A.isNone = true) : u = [] := by
 cases u with
 | nil => rfl
 | cons y l =>
  obtain ⟨b, g, _⟩ := h.at_ 0 (.int k y) (by simp [ints])
  rw [g] at hA
  cases hA
theorem SlR.weak {k : IntKind} {Rs Rs' : List Row} {vals : List Value} {ls : List (List Int)} (h : SlR k Rs vals ls) (hr : ∀ B w0 w, Hp B w0 w Rs' → Hp B w0 w Rs) : SlR k Rs' vals ls :=
 ⟨h.1, fun j hj => by
  obtain ⟨A, c, h1, h2⟩ := h.2 j hj
  exact ⟨A, c, h1, fun B w0 w hw => h2 B w0 w (hr B w0 w hw)⟩⟩
theorem SlR.right {k : IntKind} {Rs : List Row} {vals : List Value} {ls : List (List Int)} (h : SlR k Rs vals ls) (X : List Row) : SlR k (X ++ Rs) vals ls := h.weak fun _ _ _ hw => hw.right
theorem SlR.left {k : IntKind} {Rs : List Row} {vals : List Value} {ls : List (List Int)} (h : SlR k Rs vals ls) (T : List Row) : SlR k (Rs ++ T) vals ls := h.weak fun _ _ _ hw => hw.left
theorem getD_app {l m : List (List Int)} {j : Nat} (h : j < l.length) : (l ++ m).getD j [] = l.getD j [] := by
 rw [List.getD_eq_getElem?_getD, List.getD_eq_getElem?_getD, List.getElem?_append_left h]
theorem SlR.app {k : IntKind} {Rs : List Row} {v1 v2 : List Value} {l1 l2 : List (List Int)} (h : SlR k Rs v1 l1) (g : SlR k Rs v2 l2) : SlR k Rs (v1 ++ v2) (l1 ++ l2) := by
 refine ⟨by simp [h.1, g.1], fun j hj => ?_⟩
 rcases Nat.lt_or_ge j l1.length with q | q
 ·obtain ⟨A, c, h1, h2⟩ := h.2 j q
  rw [getD_app q, List.getElem?_append_left (by rw [h.1]; exact q)]
  exact ⟨A, c, h1, h2⟩
 ·rw [List.length_append] at hj
  obtain ⟨A, c, h1, h2⟩ := g.2 (j - l1.length) (by omega)
  have e : (l1 ++ l2).getD j [] = l2.getD (j - l1.length) [] := by
   rw [List.getD_eq_getElem?_getD, List.getD_eq_getElem?_getD, List.getElem?_append_right q]
  rw [e, List.getElem?_append_right (by rw [h.1]; exact q), h.1]
  exact ⟨A, c, h1, h2⟩
theorem SlR.take {k : IntKind} {Rs : List Row} {vals : List Value} {ls : List (List Int)} (h : SlR k Rs vals ls) (i : Nat) : SlR k Rs (vals.take i) (ls.take i) := by
 refine ⟨by simp [h.1], fun j hj => ?_⟩
 rw [List.length_take] at hj
 obtain ⟨A, c, h1, h2⟩ := h.2 j (by omega)
 have e : (ls.take i).getD j [] = ls.getD j [] := by
  rw [List.getD_eq_getElem?_getD, List.getD_eq_getElem?_getD, List.getElem?_take_of_lt (by omega)]
 rw [e, List.getElem?_take_of_lt (by omega)]
 exact ⟨A, c, h1, h2⟩
theorem SlR.drop {k : IntKind} {Rs : List Row} {vals : List Value} {ls : List (List Int)} (h : SlR k Rs vals ls) (i : Nat) : SlR k Rs (vals.drop i) (ls.drop i) := by
 refine ⟨by simp [h.1], fun j hj => ?_⟩
 rw [List.length_drop] at hj
 obtain ⟨A, c, h1, h2⟩ := h.2 (i + j) (by omega)
 have e : (ls.drop i).getD j [] = ls.getD (i + j) [] := by
  rw [List.getD_eq_getElem?_getD, List.getD_eq_getElem?_getD, List.getElem?_drop]
 rw [e, List.getElem?_drop]
 exact ⟨A, c, h1, h2⟩
theorem SlR.single {k : IntKind} {Rs : List Row} {A : Option Addr} {m c : Nat} {l : List Int} (hm : m = l.length) (h : ∀ B w0 w, Hp B w0 w Rs → Rd w A m c 1 (ints k l)) : SlR k Rs [.slice A m c] [l] := by
 subst hm
 refine ⟨rfl, fun j hj => ?_⟩
 simp only [List.length_singleton] at hj
 obtain rfl : j = 0 := by omega
 exact ⟨A, c, rfl, h⟩
/-- A slice more, of whatever rows. -/
theorem SlR.push {k : IntKind} {Rs : List Row} {vals : List Value} {ls : List (List Int)} {A : Option Addr} {m c : Nat} {l : List Int} (h : SlR k Rs vals ls) (hm : m = l.length) (hr : ∀ B w0 w, Hp B w0 w Rs → Rd w A m c 1 (ints k l)) : SlR k Rs (vals ++ [.slice A m c]) (ls ++ [l]) := h.app (SlR.single hm hr)
theorem SlR.one {k : IntKind} {Rs : List Row} {vals : List Value} {ls : List (List Int)} (h : SlR k Rs vals ls) : ∀ v ∈ vals, v.oneCell' = true := fun v hv => by
 obtain ⟨j, hj, e⟩ := List.mem_iff_getElem.1 hv
 obtain ⟨A, c, h1, _⟩ := h.2 j (by rw [← h.1]; exact hj)
 rw [List.getElem?_eq_getElem hj, e] at h1
 obtain rfl := Option.some.inj h1
 simp [Value.oneCell']
/-- As slices of a world. -/
def OkB (ls : List (List Int)) : Prop := ∀ l ∈ ls, ByteL l ∧ l.length ≤ 140737488355327
theorem SlR.slw {Rs : List Row} {vals : List Value} {ls : List (List Int)} (h : SlR .u8 Rs vals ls) (hb : OkB ls) {w : World} (hw : Hp B w0 w Rs) : SlW .u8 w vals ls :=
 ⟨h.1, fun j hj => by
  obtain ⟨A, c, h1, h2⟩ := h.2 j hj
  have hm : ls.getD j [] ∈ ls := by
   rw [List.getD_eq_getElem?_getD, List.getElem?_eq_getElem hj]
   exact List.getElem_mem hj
  exact ⟨A, c, h1, h2 _ _ _ hw, fun x hx => wf_byte ((hb _ hm).1 x hx), (hb _ hm).2⟩⟩
theorem SlW.take {k : IntKind} {w : World} {vals : List Value} {ls : List (List Int)} (h : SlW k w vals ls) (i : Nat) : SlW k w (vals.take i) (ls.take i) := by
 refine ⟨by simp [h.1], fun j hj => ?_⟩
 rw [List.length_take] at hj
 have e : (ls.take i).getD j [] = ls.getD j [] := by
  rw [List.getD_eq_getElem?_getD, List.getD_eq_getElem?_getD, List.getElem?_take_of_lt (by omega)]
 rw [e, List.getElem?_take_of_lt (by omega)]
 exact h.2 j (by omega)
theorem SlW.one {k : IntKind} {w : World} {vals : List Value} {ls : List (List Int)} (h : SlW k w vals ls) : ∀ v ∈ vals, v.oneCell' = true := fun v hv => by
 obtain ⟨j, hj, e⟩ := List.mem_iff_getElem.1 hv
 obtain ⟨A, c, h1, _⟩ := h.2 j (by rw [← h.1]; exact hj)
 rw [List.getElem?_eq_getElem hj, e] at h1
 obtain rfl := Option.some.inj h1
 simp [Value.oneCell']
theorem SlW.app {k : IntKind} {w : World} {v1 v2 : List Value} {l1 l2 : List (List Int)} (h : SlW k w v1 l1) (g : SlW k w v2 l2) : SlW k w (v1 ++ v2) (l1 ++ l2) := by
 refine ⟨by simp [h.1, g.1], fun j hj => ?_⟩
 rcases Nat.lt_or_ge j l1.length with q | q
 ·rw [getD_app q, List.getElem?_append_left (by rw [h.1]; exact q)]
  exact h.2 j q
 ·rw [List.length_append] at hj
  have e : (l1 ++ l2).getD j [] = l2.getD (j - l1.length) [] := by
   rw [List.getD_eq_getElem?_getD, List.getD_eq_getElem?_getD, List.getElem?_append_right q]
  rw [e, List.getElem?_append_right (by rw [h.1]; exact q), h.1]
  exact g.2 (j - l1.length) (by omega)
theorem SlW.okB {w : World} {vals : List Value} {ls : List (List Int)} (h : SlW .u8 w vals ls) : OkB ls := fun l hl => by
 obtain ⟨j, hj, e⟩ := List.mem_iff_getElem.1 hl
 obtain ⟨A, c, _, _, h3, h4⟩ := h.2 j hj
 have e2 : ls.getD j [] = l := by rw [List.getD_eq_getElem?_getD, List.getElem?_eq_getElem hj, e]; rfl
 rw [e2] at h3 h4
 exact ⟨byteL_wf h3, h4⟩
structure RC where
 A : Option Addr
 c : Nat
 root : List Int
 times : Int
def encR (r : RC) : List Value := [.slice r.A r.root.length r.c, .int .i64 r.times]
def RC.rt (r : RC) : RT := (r.root, r.times)
def rdG (l : List RC) (i : Int) : RC := l.getD i.toNat ⟨none, 0, [], 0⟩
def rgs (l : List RC) : List Value := l.flatMap encR
def RgR (Rs : List Row) (l : List RC) : Prop := ∀ r ∈ l, ByteL r.root ∧ ∀ (B : Nat) (w0 w : World), Hp B w0 w Rs → Rd w r.A r.root.length r.c 1 (ints .u8 r.root)
theorem RgR.nil (Rs : List Row) : RgR Rs [] := fun r h => by cases h
theorem RgR.weak {Rs Rs' : List Row} {l : List RC} (h : RgR Rs l) (hr : ∀ B w0 w, Hp B w0 w Rs' → Hp B w0 w Rs) : RgR Rs' l := fun r h' => ⟨(h r h').1, fun B w0 w hw => (h r h').2 B w0 w (hr B w0 w hw)⟩
theorem RgR.right {Rs : List Row} {l : List RC} (h : RgR Rs l) (X : List Row) : RgR (X ++ Rs) l := h.weak fun _ _ _ hw => hw.right
theorem RgR.snoc {Rs : List Row} {l : List RC} {e m : Nat} {A : Option Addr} {c : Nat} {u : List Int} {t : Int} {ro : Bool} (h : RgR Rs l) (hm : m = u.length) (hb : ByteL u) : RgR (⟨e, 1, A, m, c, ints .u8 u, ro⟩ :: Rs) (l ++ [⟨A, c, u, t⟩]) := fun r hr => by
 subst hm
 rcases List.mem_append.1 hr with hr | hr
 ·exact ⟨(h r hr).1, fun B w0 w hw => (h r hr).2 B w0 w hw.tail⟩
 ·obtain rfl := List.mem_singleton.1 hr
  exact ⟨hb, fun B w0 w hw => rdr (R := ⟨e, 1, A, u.length, c, ints .u8 u, ro⟩ :: Rs) 0 rfl w hw⟩
theorem RgR.perm {Rs : List Row} {l m : List RC} (h : RgR Rs l) (hp : m.Perm l) : RgR Rs m := fun r hr => h r (hp.subset hr)
theorem rgs_len (l : List RC) : (rgs l).length = l.length * 2 := flat_len (enc := encR) (fun _ => rfl) l
theorem rgs_app (l m : List RC) : rgs (l ++ m) = rgs l ++ rgs m := List.flatMap_append
theorem rgs_one (l : List RC) : ∀ v ∈ rgs l, v.oneCell' = true := fun v hv => by
 obtain ⟨r, _, h⟩ := List.mem_flatMap.1 hv
 simp only [encR, List.mem_cons, List.not_mem_nil, or_false] at h
 rcases h with rfl | rfl <;> rfl
theorem encR_one (x : RC) : ∀ v ∈ encR x, v.oneCell' = true := fun v hv => by
 simp only [encR, List.mem_cons, List.not_mem_nil, or_false] at hv
 rcases hv with rfl | rfl <;> rfl
theorem rdG_mem {l : List RC} {i : Int} (h0 : 0 ≤ i) (h1 : i < l.length) : rdG l i ∈ l := by
 unfold rdG
 rw [List.getD_eq_getElem?_getD, List.getElem?_eq_getElem (by omega)]
 exact List.getElem_mem _
theorem rgs_at {l : List RC} {i : Int} (h0 : 0 ≤ i) (h1 : i < l.length) : ((rgs l).drop (i.toNat * 2)).take 2 = encR (rdG l i) := by
 have e : l = l.take i.toNat ++ rdG l i :: l.drop (i.toNat + 1) := by
  conv => lhs; rw [← List.take_append_drop i.toNat l]
  congr 1
  rw [List.drop_eq_getElem_cons (by omega)]
  congr 1
  unfold rdG
  rw [List.getD_eq_getElem?_getD, List.getElem?_eq_getElem (by omega)]
  rfl
 have hl : (rgs (l.take i.toNat)).length = i.toNat * 2 := by rw [rgs_len, List.length_take, Nat.min_eq_left (by omega)]
 have e2 : rgs l = rgs (l.take i.toNat) ++ (encR (rdG l i) ++ rgs (l.drop (i.toNat + 1))) := by
  conv => lhs; rw [e]
  rw [rgs_app]
  rfl
 rw [e2, List.drop_left' hl]
 rfl
theorem y_ldR {x : Operand} {t : TypeId} {d : TypeDesc} {A : Option Addr} {m c : Nat} {l : List RC} {i : Int} (hu : P.underlying t = some d) (hd : aggB d = true) (hst : (P.info? t).map (·.size) = some 2) (hx : ev L x = some (.pointer (pat A (i.toNat * 2)))) (hr : RdC B w0 R A m c 2 (rgs l)) (h0 : 0 ≤ i) (h1 : i < l.length) :
  Yl P n B w0 (.load t x) ty L R (.agg #[.slice (rdG l i).A (rdG l i).root.length (rdG l i).c, .int .i64 (rdG l i).times]) := by
 have := y_ldA (P := P) (n := n) (B := B) (w0 := w0) (R := R) (ty := ty) hu hd hst hx rfl hr (by rw [rgs_len]; omega) (by omega)
 rwa [rgs_at h0 h1] at this
theorem a_appendR {s x : Operand} {t e : TypeId} {z : Value} {bytes m p c c2 : Nat} {A A2 : Option Addr} {l news : List RC} (i : Nat) (hi : R[i]? = some ⟨e, 2, A, p, c, rgs l, false⟩) (ht : P.underlying t = some (.slice e)) (hinfo : (P.info? e).map (fun i => (i.zero, i.size, i.bytes)) = some (some z, 2, bytes)) (hz : z.cells.size = 2) (hb0 : Nat.blt 0 bytes = true)
  (hs : ev L s = some (.slice A p c)) (hx : ev L x = some (.slice A2 m c2)) (hrd : RdC B w0 R A2 m c2 2 (rgs news)) (hbytes : (p + m) * bytes ≤ 140737488355328) :
  Ac P n B w0 (.call { callee := .builtin .append, args := #[s, x], argTypes := #[t, t] }) ty L R (fun v R' => ∃ A' c', v = .slice A' (p + m) c' ∧ R' = R.set i ⟨e, 2, A', p + m, c', rgs (l ++ news), false⟩) := by
 have := a_append (P := P) (n := n) (B := B) (w0 := w0) (ty := ty) i hi rfl ht hinfo hz rfl hb0 hs hx hrd (rgs_one news) hbytes
 simp only [← rgs_app] at this
 exact this
theorem a_litR {t e : TypeId} {x : Operand} (r : RC) (ht : P.underlying t = some (.slice e)) (hinfo : (P.info? e).map (fun i => (i.zero, i.size)) = some (some (.agg #[.slice none 0 0, .int .i64 0]), 2)) (hx : ev L x = some (.agg #[.slice r.A r.root.length r.c, .int .i64 r.times])) :
  Ac P n B w0 (.buildSlice t 1 #[(0, x)]) ty L R (fun v R' => ∃ g, v = .slice (some ⟨g, 0, none⟩) 1 1 ∧ R' = ⟨e, 2, some ⟨g, 0, none⟩, 1, 1, rgs [r], false⟩ :: R) := by
 have hv : evp L [(0, x)] = some [(0, .agg #[.slice r.A r.root.length r.c, .int .i64 r.times])] := by simp [evp, hx]
 exact a_buildSlice (P := P) (n := n) (B := B) (w0 := w0) (L := L) (R := R) (ty := ty) (len := 1) (ps := [(0, x)]) (cells := #[.slice r.A r.root.length r.c, .int .i64 r.times]) ht hinfo hv (by decide) (by decide) (by kernel_rfl) (by rfl)
end
end Go.Eng

/-! ## F1 -/
namespace Go.Proofs.YtdfcnalkdlifiaaGreat
open Go Go.Eng Go.Pure
open Tryz
set_option linter.unusedVariables false
set_option maxRecDepth 100000 in
theorem isNaNI_ct {w : World} {x : Int} :
  Ct Tryz.prog 88 #[.int .i64 x] w.heap.size w [] (fun v R' => v = .bool false) := by
 refine fn1 Tryz.func88 rfl rfl rfl ?_
 refine wq <| wg rfl rfl <| wr_nil <| wq <| wm rfl rfl <| wm rfl rfl <| wr_y rfl (Yl.f (y_ne rfl rfl) (by omega)) <| wg rfl rfl <| wr_nil <| w_ret ?_
 refine ⟨_, rfl, ?_⟩
 rfl

set_option maxRecDepth 100000 in
theorem compareI_ct {w : World} {x : Int} {y : Int} :
  Ct Tryz.prog 58 #[.int .i64 x, .int .i64 y] w.heap.size w [] (fun v R' => v = .int .i64 (cmpI x y)) := by
 refine fn1 Tryz.func58 rfl rfl rfl ?_
 refine wq <| wg rfl rfl <| wr_nil <| wq <| wm rfl rfl <| wr_a rfl (a_callF en88 rfl (Ct.quiet (fun w hw => isNaNI_ct))) ?_
 rintro _ _ ⟨rfl, rfl⟩
 refine wg rfl rfl <| wr_nil <| wq <| wm rfl rfl <| wr_a rfl (a_callF en88 rfl (Ct.quiet (fun w hw => isNaNI_ct))) ?_
 rintro _ _ ⟨rfl, rfl⟩
 refine wg rfl rfl <| wr_nil <| w_seq <| wq <| wm rfl rfl <| wr_nil <| w_false rfl <| w_skip <| w_seq <| wq <| wm rfl rfl <| wr_nil <| w_false rfl ?_
 refine w_skip <| w_seq <| wq <| wm rfl rfl <| wm rfl rfl <| wL rfl rfl rfl <| wr_nil <| w_if rfl (fun hc1 => ?_) (fun hc1 => ?_)
 ·
  refine wq <| wg rfl rfl <| wr_nil <| w_ret ?_
  refine ⟨_, rfl, ?_⟩
  exact congrArg (Value.int .i64) (by unfold cmpI; rw [if_pos (by omega)])
 ·
  refine w_skip <| w_seq <| wq <| wm rfl rfl <| wm rfl rfl <| wr_y rfl (y_gt rfl rfl) <| wr_nil <| w_if rfl (fun hc2 => ?_) (fun hc2 => ?_)
  ·
   refine wq <| wg rfl rfl <| wr_nil <| w_ret ?_
   refine ⟨_, rfl, ?_⟩
   exact congrArg (Value.int .i64) (by unfold cmpI; rw [if_neg (by omega), if_pos (by omega)])
  ·
   refine w_skip <| wq <| wg rfl rfl <| wr_nil <| w_ret ?_
   refine ⟨_, rfl, ?_⟩
   exact congrArg (Value.int .i64) (by unfold cmpI; rw [if_neg (by omega), if_neg (by omega)])

set_option maxRecDepth 100000 in
theorem words4_ct {w : World} {A_u : Option Addr} {n_u c_u : Nat} {u : List Int} {A_t : Option Addr} {n_t c_t : Nat} {t : List Int} (h_u : Rd w A_u n_u c_u 1 (ints .u8 u)) (h_t : Rd w A_t n_t c_t 1 (ints .u8 t)) :
  Ct Tryz.prog 47 #[.slice A_u n_u c_u, .slice A_t n_t c_t] w.heap.size w [] (fun v R' => v = .int .i64 (cmpL u t)) := by
 obtain rfl := h_u.lenI
 obtain rfl := h_t.lenI
 refine fn1 Tryz.func47 rfl rfl rfl ?_
 have m_u := h_u.max
 have m_t := h_t.max
 refine wq <| wg rfl rfl <| wr_nil <| w_seq <| wq <| wg rfl rfl <| wr_nil <| w_block ?_
 refine w_loop1 (fun (i : Int) => [(0, .slice A_u u.length c_u), (1, .slice A_t t.length c_t), (5, .int .i64 i)]) (fun (i : Int) => []) (fun (i : Int) => (0 ≤ i) ∧ (i ≤ u.length) ∧ (i ≤ t.length) ∧ (cmpL u t = cmpL (u.drop i.toNat) (t.drop i.toNat))) (fun (i : Int) => (u.length - i).toNat) ?_ ?_
 ·
  exact ⟨0, ⟨(by omega), (by omega), (by omega), (by simp)⟩, (sc rfl (sc rfl (sc rfl Sub.nil))), fun _ h => h⟩
 intro i ⟨hi0, hiu, hit, hc⟩
 refine w_seq <| wq <| wm rfl rfl <| wm rfl rfl <| wr_y rfl (y_len underlying23 rfl) <| wL rfl rfl rfl <| wm rfl rfl <| wr_mid 5 [(0, .slice A_u u.length c_u), (1, .slice A_t t.length c_t), (5, .int .i64 i), (15, .bool (decide ((i < ((u.length : Nat) : Int)) ∧ (i < ((t.length : Nat) : Int)))))] [] ?_ ?_
 ·
  refine wr_case 10 rfl (fun hc1 => ?_) (fun hc1 => ?_)
  ·
   refine wr_yes rfl rfl <| wm rfl rfl <| wr_yes rfl rfl <| wm rfl rfl <| wr_yes rfl rfl <| wr_y rfl (y_len underlying23 rfl) <| wr_yes rfl rfl <| wL rfl rfl rfl <| wr_y rfl (y_pickT rfl rfl) <| wr_nil ?_
   exact ⟨(sc rfl (sc rfl (sc rfl (Sub.to rfl (mb (by first | omega | exact ⟨fun h => ⟨(by assumption), h⟩, fun h => h.2⟩ | exact .inl (by assumption) | exact ⟨.inr, fun h => h.resolve_left (by assumption)⟩ | exact ⟨fun h => h.resolve_left (by assumption), .inr⟩ | simp [*])) Sub.nil)))), fun _ h => h⟩
  ·
   refine wr_no rfl rfl rfl rfl <| wr_no rfl rfl rfl rfl <| wr_no rfl rfl rfl rfl <| wr_no rfl rfl rfl rfl <| wr_y rfl (y_pickF rfl rfl) <| wr_nil ?_
   exact ⟨(sc rfl (sc rfl (sc rfl (Sub.to rfl (mb_f (by first | omega | exact ⟨fun h => ⟨(by assumption), h⟩, fun h => h.2⟩ | exact .inl (by assumption) | exact ⟨.inr, fun h => h.resolve_left (by assumption)⟩ | exact ⟨fun h => h.resolve_left (by assumption), .inr⟩ | simp [*])) Sub.nil)))), fun _ h => h⟩
 refine wr_nil <| w_if rfl (fun hc2 => ?_) (fun hc2 => ?_)
 ·
  refine w_skip <| w_seq <| w_block <| w_seq <| w_regd mixed <| wd_y 0 rfl (by kernel_rfl) rfl (y_move rfl) <| wd_y 1 rfl (by kernel_rfl) rfl (y_move rfl) <| wd_y 2 rfl (by kernel_rfl) rfl (y_index1 underlying23 sz5 rfl rfl (h_u.c _) (by omega) (by omega)) <| wd_y 3 rfl (by kernel_rfl) rfl (y_ldI underlying5 rfl rfl (h_u.c _) (by omega) (by omega)) <| wd_y 4 rfl (by kernel_rfl) rfl (y_move rfl) <| wd_y 5 rfl (by kernel_rfl) rfl (y_move rfl) <| wd_y 6 rfl (by kernel_rfl) rfl (y_index1 underlying23 sz5 rfl rfl (h_t.c _) (by omega) (by omega)) <| wd_y 7 rfl (by kernel_rfl) rfl (y_ldI underlying5 rfl rfl (h_t.c _) (by omega) (by omega)) <| wd_y 8 rfl (by kernel_rfl) rfl (y_ne rfl rfl) <| wd_nil (by kernel_rfl) ?_
  refine w_if rfl (fun hc3 => ?_) (fun hc3 => ?_)
  ·
   refine w_seq <| w_seq <| w_regd mixed <| wd_y 0 rfl (by kernel_rfl) rfl (y_move rfl) <| wd_y 1 rfl (by kernel_rfl) rfl (y_move rfl) <| wd_y 2 rfl (by kernel_rfl) rfl (y_index1 underlying23 sz5 rfl rfl (h_u.c _) (by omega) (by omega)) <| wd_y 3 rfl (by kernel_rfl) rfl (y_ldI underlying5 rfl rfl (h_u.c _) (by omega) (by omega)) <| wd_y 4 rfl (by kernel_rfl) rfl (y_move rfl) <| wd_y 5 rfl (by kernel_rfl) rfl (y_move rfl) <| wd_y 6 rfl (by kernel_rfl) rfl (y_index1 underlying23 sz5 rfl rfl (h_t.c _) (by omega) (by omega)) <| wd_y 7 rfl (by kernel_rfl) rfl (y_ldI underlying5 rfl rfl (h_t.c _) (by omega) (by omega)) <| wd_y 8 rfl (by kernel_rfl) rfl (y_lt rfl rfl) <| wd_nil (by kernel_rfl) <| w_if rfl (fun hc4 => ?_) (fun hc4 => ?_)
   ·
    refine wq <| wg rfl rfl <| wr_nil <| w_ret ?_
    refine ⟨_, rfl, ?_⟩
    exact congrArg (Value.int .i64) (by rw [hc, cmpL_step hi0 (by omega) (by omega), if_pos (by omega)])
   ·
    refine w_skip <| wq <| wg rfl rfl <| wr_nil <| w_ret ?_
    refine ⟨_, rfl, ?_⟩
    exact congrArg (Value.int .i64) (by rw [hc, cmpL_step hi0 (by omega) (by omega), if_neg (by omega), if_pos (by omega)])
  ·
   refine w_skip <| w_reg <| wm rfl rfl <| wA rfl rfl rfl (by omega) <| wg rfl rfl <| wr_nil ?_
   exact ⟨i + 1, ⟨(by omega), (by omega), (by omega), (by rw [hc, cmpL_step hi0 (by omega) (by omega), if_neg (by omega), if_neg (by omega)])⟩, (by omega), (sc rfl (sc rfl (sc rfl Sub.nil))), fun _ h => h⟩
 ·
  refine w_exit <| w_seq <| w_block <| wq <| wm rfl rfl <| wr_y rfl (y_len underlying23 rfl) <| wm rfl rfl <| wr_y rfl (y_len underlying23 rfl) <| wL rfl rfl rfl <| wg rfl rfl <| wr_nil <| w_if rfl (fun hc5 => ?_) (fun hc5 => ?_)
  ·
   refine wq <| wg rfl rfl <| wr_nil <| w_ret ?_
   refine ⟨_, rfl, ?_⟩
   exact congrArg (Value.int .i64) (by rw [hc, cmpL_end hi0 hiu hit (by omega), if_pos (by omega)])
  ·
   refine wq <| wm rfl rfl <| wr_y rfl (y_len underlying23 rfl) <| wm rfl rfl <| wr_y rfl (y_len underlying23 rfl) <| wr_y rfl (y_gt rfl rfl) <| wg rfl rfl <| wr_nil <| w_if rfl (fun hc6 => ?_) (fun hc6 => ?_)
   ·
    refine wq <| wg rfl rfl <| wr_nil <| w_ret ?_
    refine ⟨_, rfl, ?_⟩
    exact congrArg (Value.int .i64) (by rw [hc, cmpL_end hi0 hiu hit (by omega), if_neg (by omega), if_pos (by omega)])
   ·
    refine w_skip <| wq <| wg rfl rfl <| wr_nil <| w_ret ?_
    refine ⟨_, rfl, ?_⟩
    exact congrArg (Value.int .i64) (by rw [hc, cmpL_end hi0 hiu hit (by omega), if_neg (by omega), if_neg (by omega)])

end Go.Proofs.YtdfcnalkdlifiaaGreat

/-! ## N2 -/
namespace Go.Proofs.YtdfcnalkdlifiaaGreat
open Go Go.Eng Go.Pure
open Tryz
set_option linter.unusedVariables false
theorem lrotK_lt (s : List Int) : ∀ n : Nat, 0 < n → lrotK s n < n
 | 1, _ => by
  have e : lrotK s 1 = 0 := by
   rw [lrotK, lrotK]
   split <;> rfl
  omega
 | n + 2, _ => by
  have ih := lrotK_lt s (n + 1) (by omega)
  rw [lrotK]
  split <;> omega
theorem lrotK_yes {u : List Int} {i k : Int} (i1 : 1 ≤ i) (hk : k = lrotK u i.toNat) (h : cmpL (turnS u i) (turnS u k) < 0) : i = lrotK u (i + 1).toNat := by
 rw [show (i + 1).toNat = i.toNat + 1 by omega, lrotK, if_pos (by rw [← hk, Int.toNat_of_nonneg (by omega)]; exact h)]
 omega
theorem lrotK_no {u : List Int} {i k : Int} (i1 : 1 ≤ i) (hk : k = lrotK u i.toNat) (h : ¬ cmpL (turnS u i) (turnS u k) < 0) : k = lrotK u (i + 1).toNat := by
 rw [show (i + 1).toNat = i.toNat + 1 by omega, lrotK, if_neg (by rw [← hk, Int.toNat_of_nonneg (by omega)]; exact h), hk]
set_option maxRecDepth 100000 in
theorem ofL_ct {w : World} {A_u : Option Addr} {n_u c_u : Nat} {u : List Int} (h_u : Rd w A_u n_u c_u 1 (ints .u8 u)) (bh_u : ByteL u) (hN : u.length ≤ 1000000) :
  Ct Tryz.prog 62 #[.slice A_u n_u c_u] w.heap.size w [] (fun v R' => ∃ A c, v = .slice A (lw u).length c ∧ R' = [⟨5, 1, A, (lw u).length, c, ints .u8 (lw u), false⟩]) := by
 obtain rfl := h_u.lenI
 refine fn1 Tryz.func62 rfl rfl rfl ?_
 have m_u := h_u.max
 have hlr := lrot_bd u
 have hfe : ([u.drop (lrot u).toNat, u.take (lrot u).toNat] : List (List Int)).flatten = lw u := by simp [lw, turnS]
 have hlw := lw_len u
 refine wq <| wg rfl rfl <| wr_nil <| wq <| wm rfl rfl <| wr_a rfl (a_callF en91 rfl (Ct.quiet (fun w hw => at6_ct ((h_u.c _) w hw) (by first | assumption | omega | decide)))) ?_
 rintro _ _ ⟨rfl, rfl⟩
 refine wg rfl rfl <| wr_nil <| w_seq <| w_regd mixed <| wd_y 0 rfl (by kernel_rfl) rfl (y_move rfl) <| wd_y 1 rfl (by kernel_rfl) rfl (y_move rfl) <| wd_y 2 rfl (by kernel_rfl) rfl (y_sliceFrom underlying23 sz5 rfl rfl (by omega) (by omega)) <| wd_y 3 rfl (by kernel_rfl) rfl (y_move rfl) <| wd_y 4 rfl (by kernel_rfl) rfl (y_move rfl) <| wd_y 5 rfl (by kernel_rfl) rfl (y_sliceTo underlying23 sz5 rfl rfl (h_u.c _) (by omega) (by omega)) ?_
 have hsw : SlW .u8 w [.slice (cutA A_u (lrot u).toNat c_u 1) (u.length - (lrot u).toNat) (c_u - (lrot u).toNat), .slice A_u ((lrot u).toNat) c_u] [u.drop (lrot u).toNat, u.take (lrot u).toNat] := ((slw_none _ _).snoc (h_u.fromI (l := (lrot u).toNat) (by omega)) (fun x hx => wf_byte (bh_u x (List.mem_of_mem_drop hx))) (by rw [List.length_drop]; omega)).snoc (h_u.toI (by omega)) (fun x hx => wf_byte (bh_u x (List.mem_of_mem_take hx))) (by rw [List.length_take]; omega)
 refine wd_a 6 rfl (by kernel_rfl) rfl (a_lit [Value.slice (cutA A_u (lrot u).toNat c_u 1) (u.length - (lrot u).toNat) (c_u - (lrot u).toNat), Value.slice A_u ((lrot u).toNat) c_u] underlying22 zs23 rfl rfl rfl rfl) ?_
 rintro _ _ ⟨g_2, rfl, rfl⟩
 refine ⟨.inr fun _ h => h.right (R' := [_]), ?_⟩
 refine wd_a 7 rfl (by kernel_rfl) rfl (a_callF en92 rfl (Ct.fresh (fun w hw => concatB_ct ((rdr 0 rfl) w hw) (hsw.c hw) (by rw [hfe]; exact ⟨by omega, by simp⟩)))) ?_
 rintro _ _ ⟨_, rfl, A_3, c_4, rfl, rfl⟩
 refine ⟨.inr fun _ h => h.right (R' := [_]), ?_⟩
 refine wd_y 8 rfl (by kernel_rfl) rfl (y_assign rfl) <| wd_nil (by kernel_rfl) <| w_retR (R1 := [⟨5, 1, A_3, ((([u.drop (lrot u).toNat, u.take (lrot u).toNat])).flatten).length, c_4, ints .u8 ((([u.drop (lrot u).toNat, u.take (lrot u).toNat])).flatten), false⟩]) (fun _ h => h.sel [0] (by decide) rfl) ?_
 refine ⟨_, rfl, ?_⟩
 rw [hfe]
 exact ⟨_, _, rfl, rfl⟩

set_option maxRecDepth 100000 in
theorem cloneB_ct {w : World} {A_u : Option Addr} {n_u c_u : Nat} {u : List Int} (h_u : Rd w A_u n_u c_u 1 (ints .u8 u)) (hN : u.length ≤ 1000000) :
  Ct Tryz.prog 90 #[.slice A_u n_u c_u] w.heap.size w [] (fun v R' => ∃ A c, v = .slice A (u).length c ∧ R' = [⟨5, 1, A, (u).length, c, ints .u8 (u), false⟩]) := by
 obtain rfl := h_u.lenI
 refine fn1 Tryz.func90 rfl rfl rfl ?_
 have m_u := h_u.max
 refine wq <| wr_sub (R1 := [⟨5, 1, none, 0, 0, ints .u8 ([]), false⟩]) (Sub.refl _) (fun _ h => h.nil 5 1) <| wg rfl rfl <| wr_nil <| w_seq <| wq <| wm rfl rfl <| wr_y rfl (y_slNil underlying23 rfl rfl) <| wr_nil <| w_cond rfl (fun hc1 => ?_) (fun hc1 => ?_)
 ·
  refine wq <| wg rfl rfl <| wr_nil <| w_retR (R1 := [⟨5, 1, none, 0, 0, ints .u8 ([]), false⟩]) (fun _ h => h.sel [0] (by decide) rfl) ?_
  refine ⟨_, rfl, ?_⟩
  obtain rfl := rd_isNone h_u hc1
  exact ⟨_, _, rfl, rfl⟩
 ·
  refine w_skip <| wq <| wr_a rfl (a_litI .u8 [] underlying23 zs5 rfl rfl rfl) ?_
  rintro _ _ ⟨g_2, rfl, rfl⟩
  refine wm rfl rfl <| wr_a rfl (a_appendI 0 rfl underlying23 zb5 rfl rfl rfl (h_u.c _) (by omega)) ?_
  rintro _ _ ⟨A_3, c_4, rfl, rfl⟩
  refine wr_rows (R1 := [⟨5, 1, A_3, (0 + u.length), c_4, ints .u8 (([]) ++ u), false⟩, ⟨5, 1, none, 0, 0, ints .u8 ([]), false⟩]) rfl <| wr_as (v := .slice A_3 (0 + u.length) c_4) rfl <| wg rfl rfl <| wr_nil <| w_retR (R1 := [⟨5, 1, A_3, (0 + u.length), c_4, ints .u8 (([]) ++ u), false⟩]) (fun _ h => h.sel [0] (by decide) rfl) ?_
  refine ⟨_, rfl, ?_⟩
  simp only [List.nil_append, Nat.zero_add]
  exact ⟨_, _, rfl, rfl⟩

set_option maxRecDepth 100000 in
theorem compareBB_ct {w : World} {A_u : Option Addr} {n_u c_u : Nat} {u : List Int} {A_t : Option Addr} {n_t c_t : Nat} {t : List Int} (h_u : Rd w A_u n_u c_u 1 (ints .u8 u)) (h_t : Rd w A_t n_t c_t 1 (ints .u8 t)) (bh_u : ByteL u) (bh_t : ByteL t) :
  Ct Tryz.prog 41 #[.slice A_u n_u c_u, .slice A_t n_t c_t] w.heap.size w [] (fun v R' => v = .int .i64 (cmpL u t)) := by
 obtain rfl := h_u.lenI
 obtain rfl := h_t.lenI
 refine fn1 Tryz.func41 rfl rfl rfl ?_
 have m_u := h_u.max
 have m_t := h_t.max
 refine wq <| wg rfl rfl <| wr_nil <| wq <| wm rfl rfl <| wm rfl rfl <| wr_a rfl (a_cmp Tryz.func71 (by kernel_rfl) (by kernel_rfl) (by kernel_rfl) (by kernel_rfl) rfl rfl (h_u.c _) (h_t.c _) bh_u bh_t) ?_
 rintro _ _ ⟨rfl, rfl⟩
 refine wg rfl rfl <| wr_nil <| w_ret ?_
 refine ⟨_, rfl, ?_⟩
 rfl

set_option maxRecDepth 100000 in
theorem turns4_ct {w : World} {A_u : Option Addr} {n_u c_u : Nat} {u : List Int} {i : Int} {k : Int} (h_u : Rd w A_u n_u c_u 1 (ints .u8 u)) (hi : 0 ≤ i ∧ i < u.length) (hk : 0 ≤ k ∧ k < u.length) (hN : u.length ≤ 1000000) :
  Ct Tryz.prog 74 #[.slice A_u n_u c_u, .int .i64 i, .int .i64 k] w.heap.size w [] (fun v R' => v = .int .i64 (cmpL (turnS u i) (turnS u k))) := by
 obtain rfl := h_u.lenI
 refine fn1 Tryz.func74 rfl rfl rfl ?_
 have m_u := h_u.max
 refine wq <| wg rfl rfl <| wr_nil <| w_seq <| wq <| wm rfl rfl <| wr_y rfl (Yl.f (y_lt rfl rfl) (by omega)) <| wm rfl rfl <| wr_yes rfl rfl <| wm rfl rfl <| wr_yes rfl rfl <| wm rfl rfl <| wr_yes rfl rfl ?_
 refine wr_y rfl (y_len underlying23 rfl) <| wr_yes rfl rfl <| wr_y rfl (Yl.f (y_ge rfl rfl) (by omega)) <| wr_y rfl (y_pickF rfl rfl) <| wm rfl rfl <| wr_yes rfl rfl <| wm rfl rfl <| wr_yes rfl rfl <| wr_y rfl (Yl.f (y_lt rfl rfl) (by omega)) <| wr_y rfl (y_pickF rfl rfl) <| wm rfl rfl <| wr_yes rfl rfl <| wm rfl rfl <| wr_yes rfl rfl <| wm rfl rfl ?_
 refine wr_yes rfl rfl <| wr_y rfl (y_len underlying23 rfl) <| wr_yes rfl rfl <| wr_y rfl (Yl.f (y_ge rfl rfl) (by omega)) <| wr_y rfl (y_pickF rfl rfl) <| wr_nil <| w_false rfl <| w_skip <| wq <| wm rfl rfl <| wm rfl rfl <| wr_a rfl (a_callF en44 rfl (Ct.fresh (fun w hw => turn4_ct ((h_u.c _) w hw) ⟨hi.1, by omega⟩ (by first | assumption | omega | decide)))) ?_
 rintro _ _ ⟨_, rfl, A_1, c_2, rfl, rfl⟩
 refine wm rfl rfl <| wm rfl rfl <| wr_a rfl (a_callF en44 rfl (Ct.fresh (fun w hw => turn4_ct ((h_u.c _) w hw) ⟨hk.1, by omega⟩ (by first | assumption | omega | decide)))) ?_
 rintro _ _ ⟨_, rfl, A_4, c_5, rfl, rfl⟩
 refine wr_a rfl (a_callF en47 rfl (Ct.quiet (fun w hw => words4_ct ((rdr 1 rfl) w hw) ((rdr 0 rfl) w hw)))) ?_
 rintro _ _ ⟨rfl, rfl⟩
 refine wg rfl rfl <| wr_nil <| w_retR (R1 := []) (fun _ h => h.sel [] (by decide) rfl) ?_
 refine ⟨_, rfl, ?_⟩
 rfl

set_option maxRecDepth 100000 in
theorem atR6_ct {w : World} {A_u : Option Addr} {n_u c_u : Nat} {u : List Int} (h_u : Rd w A_u n_u c_u 1 (ints .u8 u)) (hN : u.length ≤ 1000000) :
  Ct Tryz.prog 45 #[.slice A_u n_u c_u] w.heap.size w [] (fun v R' => v = .int .i64 (lrot u)) := by
 obtain rfl := h_u.lenI
 refine fn1 Tryz.func45 rfl rfl rfl ?_
 have m_u := h_u.max
 refine wq <| wg rfl rfl <| wr_nil <| wq <| wg rfl rfl <| wr_nil <| w_seq <| wq <| wg rfl rfl <| wr_nil <| w_block ?_
 refine w_loop2 (fun (i : Int) (k : Int) => [(0, .slice A_u u.length c_u), (3, .int .i64 k), (4, .int .i64 i)]) (fun (i : Int) (k : Int) => []) (fun (i : Int) (k : Int) => (1 ≤ i) ∧ (i ≤ u.length ∨ i = 1) ∧ (k = lrotK u i.toNat)) (fun (i : Int) (k : Int) => (u.length - i).toNat) ?_ ?_
 ·
  exact ⟨1, 0, ⟨(by omega), (by omega), (by have := lrotK_lt u 1 (by decide); show (0 : Int) = ((lrotK u 1 : Nat) : Int); omega)⟩, (sc rfl (sc rfl (sc rfl Sub.nil))), fun _ h => h⟩
 intro i k ⟨hi1, hi2, hk⟩
 have hkl := lrotK_lt u i.toNat (by omega)
 refine w_seq <| wq <| wm rfl rfl <| wm rfl rfl <| wr_y rfl (y_len underlying23 rfl) <| wL rfl rfl rfl <| wr_nil <| w_if rfl (fun hc1 => ?_) (fun hc1 => ?_)
 ·
  refine w_skip <| w_seq <| w_block <| wq <| wm rfl rfl <| wm rfl rfl <| wm rfl rfl <| wr_a rfl (a_callF en74 rfl (Ct.quiet (fun w hw => turns4_ct ((h_u.c _) w hw) (by first | assumption | omega | decide) (by first | assumption | omega | decide) (by first | assumption | omega | decide)))) ?_
  rintro _ _ ⟨rfl, rfl⟩
  refine wL rfl rfl rfl <| wr_nil <| w_if rfl (fun hc2 => ?_) (fun hc2 => ?_)
  ·
   refine w_reg <| wm rfl rfl <| wg rfl rfl <| wr_nil <| w_reg <| wm rfl rfl <| wA rfl rfl rfl (by omega) <| wg rfl rfl <| wr_nil ?_
   exact ⟨i + 1, i, ⟨(by omega), (by omega), (lrotK_yes hi1 hk (by assumption))⟩, (by omega), (sc rfl (sc rfl (sc rfl Sub.nil))), fun _ h => h⟩
  ·
   refine w_skip <| w_reg <| wm rfl rfl <| wA rfl rfl rfl (by omega) <| wg rfl rfl <| wr_nil ?_
   exact ⟨i + 1, k, ⟨(by omega), (by omega), (lrotK_no hi1 hk (by assumption))⟩, (by omega), (sc rfl (sc rfl (sc rfl Sub.nil))), fun _ h => h⟩
 ·
  refine w_exit <| wq <| wm rfl rfl <| wg rfl rfl <| wr_nil <| w_ret ?_
  refine ⟨_, rfl, ?_⟩
  rcases Nat.eq_zero_or_pos u.length with z | z
  ·obtain rfl : k = 0 := by omega
   have e : lrot u = 0 := by unfold lrot; rw [z]; rfl
   rw [e]
  ·obtain rfl : i = u.length := by omega
   rw [hk, Int.toNat_natCast]; rfl

set_option maxRecDepth 100000 in
theorem of6_ct {w : World} {A_u : Option Addr} {n_u c_u : Nat} {u : List Int} (h_u : Rd w A_u n_u c_u 1 (ints .u8 u)) (hN : u.length ≤ 1000000) :
  Ct Tryz.prog 24 #[.slice A_u n_u c_u] w.heap.size w [] (fun v R' => ∃ A c, v = .slice A (lw u).length c ∧ R' = [⟨5, 1, A, (lw u).length, c, ints .u8 (lw u), false⟩]) := by
 obtain rfl := h_u.lenI
 refine fn1 Tryz.func24 rfl rfl rfl ?_
 have m_u := h_u.max
 have hlr := lrot_bd u
 refine wq <| wg rfl rfl <| wr_nil <| wq <| wm rfl rfl <| wm rfl rfl <| wr_a rfl (a_callF en45 rfl (Ct.quiet (fun w hw => atR6_ct ((h_u.c _) w hw) (by first | assumption | omega | decide)))) ?_
 rintro _ _ ⟨rfl, rfl⟩
 refine wr_a rfl (a_callF en44 rfl (Ct.fresh (fun w hw => turn4_ct ((h_u.c _) w hw) ⟨hlr.1, hlr.2.1⟩ (by first | assumption | omega | decide)))) ?_
 rintro _ _ ⟨_, rfl, A_1, c_2, rfl, rfl⟩
 refine wg rfl rfl <| wr_nil <| w_retR (R1 := [⟨5, 1, A_1, (u.drop ((lrot u)).toNat ++ u.take ((lrot u)).toNat).length, c_2, ints .u8 (u.drop ((lrot u)).toNat ++ u.take ((lrot u)).toNat), false⟩]) (fun _ h => h.sel [0] (by decide) rfl) ?_
 refine ⟨_, rfl, ?_⟩
 exact ⟨_, _, rfl, rfl⟩

theorem bord_step {u L : List Int} {i z : Int} (i1 : 1 ≤ i) (hi : i < u.length) (hl : L.length = u.length) (hM : ∀ j : Int, 0 ≤ j → j < i → j < u.length → MB u (j + 1).toNat (rd L j)) (h : MB u (i.toNat + 1) z) : ∀ j : Int, 0 ≤ j → j < i + 1 → j < u.length → MB u (j + 1).toNat (rd (upd L i z) j) := fun j h0 h1 h2 => by
 by_cases e : j = i
 ·subst e
  rw [rd_upd_same (by omega) (by omega), show (j + 1).toNat = j.toNat + 1 by omega]
  exact h
 ·rw [rd_upd_other (by omega) h0 (fun q => e q.symm)]
  exact hM j h0 (by omega) h2
set_option maxRecDepth 100000 in
set_option maxHeartbeats 800000 in
theorem borders_ct {w : World} {A_u : Option Addr} {n_u c_u : Nat} {u : List Int} (h_u : Rd w A_u n_u c_u 1 (ints .u8 u)) (hN : u.length ≤ 1000000) :
  Ct Tryz.prog 122 #[.slice A_u n_u c_u] w.heap.size w [] (fun v R' => ∃ (A : Option Addr) (c : Nat) (L : List Int), v = .slice A L.length c ∧ L.length = u.length ∧ (∀ j : Int, 0 ≤ j → j < u.length → j < u.length → MB u (j + 1).toNat (rd L j)) ∧ R' = [⟨3, 1, A, L.length, c, ints .i64 L, false⟩]) := by
 obtain rfl := h_u.lenI
 refine fn1 Tryz.func122 rfl rfl rfl ?_
 have m_u := h_u.max
 refine wq <| wg rfl rfl <| wr_nil <| wq <| wm rfl rfl <| wr_y rfl (y_len underlying23 rfl) <| wr_a rfl (a_makeN underlying24 zb3 rfl rfl (by omega) (by omega) (by omega)) ?_
 rintro _ _ ⟨g_1, rfl, rfl⟩
 refine wr_rows (R1 := [⟨3, 1, (some ⟨g_1, 0, none⟩), u.length, u.length, ints .i64 (List.replicate u.length (0 : Int)), false⟩]) rfl <| wr_as (v := .slice (some ⟨g_1, 0, none⟩) u.length u.length) rfl <| wg rfl rfl <| wr_nil <| wq <| wg rfl rfl <| wr_nil <| w_seq <| wq <| wg rfl rfl <| wr_nil <| w_block ?_
 refine w_loop3 (fun (i : Int) (z : Int) (L : List Int) => [(0, .slice A_u u.length c_u), (3, .slice (some ⟨g_1, 0, none⟩) u.length u.length), (4, .int .i64 z), (5, .int .i64 i)]) (fun (i : Int) (z : Int) (L : List Int) => [⟨3, 1, (some ⟨g_1, 0, none⟩), u.length, u.length, ints .i64 L, false⟩]) (fun (i : Int) (z : Int) (L : List Int) => (1 ≤ i) ∧ (i ≤ u.length ∨ i = 1) ∧ (L.length = u.length) ∧ (∀ j : Int, 0 ≤ j → j < i → j < u.length → MB u (j + 1).toNat (rd L j)) ∧ (MB u i.toNat z)) (fun (i : Int) (z : Int) (L : List Int) => (u.length - i).toNat) ?_ ?_
 ·
  exact ⟨1, 0, List.replicate u.length (0 : Int), ⟨(by omega), (by omega), (by rw [List.length_replicate]), (fun j h0 h1 h2 => by obtain rfl : j = 0 := (by omega); have e : rd (List.replicate u.length (0 : Int)) 0 = 0 := (by unfold rd; rw [List.getD_eq_getElem?_getD, List.getElem?_replicate]; split <;> rfl); rw [e]; exact MB.one), (MB.one)⟩, (sc rfl (sc rfl (sc rfl (sc rfl Sub.nil)))), fun _ h => h⟩
 intro i z L ⟨hi1, hi2, hLl, hM, hn⟩
 refine w_seq <| wq <| wm rfl rfl <| wm rfl rfl <| wr_y rfl (y_len underlying23 rfl) <| wL rfl rfl rfl <| wr_nil <| w_if rfl (fun hc1 => ?_) (fun hc1 => ?_)
 ·
  refine w_skip <| w_seq <| w_block <| w_seq <| w_block ?_
  refine w_loop1 (fun (m : Int) => [(0, .slice A_u u.length c_u), (3, .slice (some ⟨g_1, 0, none⟩) u.length u.length), (4, .int .i64 m), (5, .int .i64 i)]) (fun (m : Int) => [⟨3, 1, (some ⟨g_1, 0, none⟩), u.length, u.length, ints .i64 L, false⟩]) (fun (m : Int) => (KI u i.toNat m)) (fun (m : Int) => m.toNat) ?_ ?_
  ·
   exact ⟨z, (KI.init hn), (sc rfl (sc rfl (sc rfl (sc rfl Sub.nil)))), fun _ h => h⟩
  intro m hK
  have hKb := hK.bd
  refine w_seq ?_
  refine w_join0 [(0, .slice A_u u.length c_u), (3, .slice (some ⟨g_1, 0, none⟩) u.length u.length), (4, .int .i64 m), (5, .int .i64 i), (27, .bool (decide ((0 < m) ∧ ((rd u i) ≠ (rd u m)))))] [⟨3, 1, (some ⟨g_1, 0, none⟩), u.length, u.length, ints .i64 L, false⟩] ?_ ?_
  ·
   refine w_regd mixed <| wd_y 0 rfl (by kernel_rfl) rfl (y_move rfl) <| wd_y 1 rfl (by kernel_rfl) rfl (y_gt rfl rfl) <| wd_y 2 rfl (by kernel_rfl) rfl (y_move rfl) <| wd_case 17 rfl (fun hc2 => ?_) (fun hc2 => ?_)
   ·
    refine wd_yg 3 rfl (by kernel_rfl) rfl rfl rfl (y_move rfl) <| wd_yg 4 rfl (by kernel_rfl) rfl rfl rfl (y_move rfl) <| wd_yg 5 rfl (by kernel_rfl) rfl rfl rfl (y_index1 underlying23 sz5 rfl rfl (h_u.c _) (by omega) (by omega)) <| wd_yg 6 rfl (by kernel_rfl) rfl rfl rfl (y_ldI underlying5 rfl rfl (h_u.c _) (by omega) (by omega)) <| wd_yg 7 rfl (by kernel_rfl) rfl rfl rfl (y_move rfl) <| wd_yg 8 rfl (by kernel_rfl) rfl rfl rfl (y_move rfl) <| wd_yg 9 rfl (by kernel_rfl) rfl rfl rfl (y_index1 underlying23 sz5 rfl rfl (h_u.c _) (by omega) (by omega)) <| wd_yg 10 rfl (by kernel_rfl) rfl rfl rfl (y_ldI underlying5 rfl rfl (h_u.c _) (by omega) (by omega)) <| wd_yg 11 rfl (by kernel_rfl) rfl rfl rfl (y_ne rfl rfl) <| wd_y 12 rfl (by kernel_rfl) rfl (y_pickT rfl rfl) <| wd_nil (by kernel_rfl) ?_
    exact ⟨(sc rfl (sc rfl (sc rfl (sc rfl (Sub.to rfl (mb (by first | omega | exact ⟨fun h => ⟨(by assumption), h⟩, fun h => h.2⟩ | exact .inl (by assumption) | exact ⟨.inr, fun h => h.resolve_left (by assumption)⟩ | exact ⟨fun h => h.resolve_left (by assumption), .inr⟩ | simp [*])) Sub.nil))))), fun _ h => h⟩
   ·
    refine wd_no 3 rfl (by kernel_rfl) rfl rfl rfl rfl <| wd_no 4 rfl (by kernel_rfl) rfl rfl rfl rfl <| wd_no 5 rfl (by kernel_rfl) rfl rfl rfl rfl <| wd_no 6 rfl (by kernel_rfl) rfl rfl rfl rfl <| wd_no 7 rfl (by kernel_rfl) rfl rfl rfl rfl <| wd_no 8 rfl (by kernel_rfl) rfl rfl rfl rfl <| wd_no 9 rfl (by kernel_rfl) rfl rfl rfl rfl <| wd_no 10 rfl (by kernel_rfl) rfl rfl rfl rfl <| wd_no 11 rfl (by kernel_rfl) rfl rfl rfl rfl <| wd_y 12 rfl (by kernel_rfl) rfl (y_pickF rfl rfl) <| wd_nil (by kernel_rfl) ?_
    exact ⟨(sc rfl (sc rfl (sc rfl (sc rfl (Sub.to rfl (mb_f (by first | omega | exact ⟨fun h => ⟨(by assumption), h⟩, fun h => h.2⟩ | exact .inl (by assumption) | exact ⟨.inr, fun h => h.resolve_left (by assumption)⟩ | exact ⟨fun h => h.resolve_left (by assumption), .inr⟩ | simp [*])) Sub.nil))))), fun _ h => h⟩
  refine w_if rfl (fun hc3 => ?_) (fun hc3 => ?_)
  ·
   have hst : rd u m ≠ rd u i := fun e => hc3.2 e.symm
   have hMm := hM (m - 1) (by omega) (by omega) (by omega)
   rw [show (m - 1 + 1).toNat = m.toNat by omega] at hMm
   refine w_skip <| w_block <| w_reg <| wm rfl rfl <| wm rfl rfl <| wS rfl rfl rfl (by omega) <| wr_y rfl (y_index1 underlying24 sz3 rfl rfl (rdr 0 rfl) (by omega) (by omega)) <| wr_y rfl (y_ldI underlying3 rfl rfl (rdr 0 rfl) (by omega) (by omega)) <| wg rfl rfl <| wr_nil ?_
   exact ⟨rd L (m - 1), (hK.step (by rw [← lt_rd, ← lt_rd]; exact hst) hMm), (by have := hMm.bd; omega), (sc rfl (sc rfl (sc rfl (sc rfl Sub.nil)))), fun _ h => h⟩
  ·
   refine w_exit <| w_seq <| w_seq <| w_regd mixed <| wd_y 0 rfl (by kernel_rfl) rfl (y_move rfl) <| wd_y 1 rfl (by kernel_rfl) rfl (y_move rfl) <| wd_y 2 rfl (by kernel_rfl) rfl (y_index1 underlying23 sz5 rfl rfl (h_u.c _) (by omega) (by omega)) <| wd_y 3 rfl (by kernel_rfl) rfl (y_ldI underlying5 rfl rfl (h_u.c _) (by omega) (by omega)) <| wd_y 4 rfl (by kernel_rfl) rfl (y_move rfl) <| wd_y 5 rfl (by kernel_rfl) rfl (y_move rfl) <| wd_y 6 rfl (by kernel_rfl) rfl (y_index1 underlying23 sz5 rfl rfl (h_u.c _) (by omega) (by omega)) <| wd_y 7 rfl (by kernel_rfl) rfl (y_ldI underlying5 rfl rfl (h_u.c _) (by omega) (by omega)) <| wd_y 8 rfl (by kernel_rfl) rfl (y_eq rfl rfl) <| wd_nil (by kernel_rfl) <| w_if rfl (fun hc4 => ?_) (fun hc4 => ?_)
   ·
    have hmb := hK.hit (by rw [← lt_rd, ← lt_rd]; exact hc4.symm)
    refine w_reg <| wm rfl rfl <| wA rfl rfl rfl (by omega) <| wg rfl rfl <| wr_nil <| w_reg <| wm rfl rfl <| wm rfl rfl <| wm rfl rfl <| wr_y rfl (y_index1 underlying24 sz3 rfl rfl (rdr 0 rfl) (by omega) (by omega)) <| wr_n (a_storeI 0 rfl sz3 rfl rfl (by omega) (by omega)) ?_
    rintro _ _ rfl
    refine wr_rows (R1 := [⟨3, 1, (some ⟨g_1, 0, none⟩), u.length, u.length, ints .i64 (upd L i (m + 1)), false⟩]) rfl <| wr_nil <| w_reg <| wm rfl rfl <| wA rfl rfl rfl (by omega) <| wg rfl rfl <| wr_nil ?_
    exact ⟨i + 1, m + 1, upd L i (m + 1), ⟨(by omega), (by omega), (by rw [upd_length]; exact hLl), (bord_step hi1 (by omega) hLl hM hmb), (by rw [show (i + 1).toNat = i.toNat + 1 by omega]; exact hmb)⟩, (by omega), (sc rfl (sc rfl (sc rfl (sc rfl Sub.nil)))), fun _ h => h⟩
   ·
    have hmb := hK.miss (by omega) (by rw [← lt_rd, ← lt_rd]; exact fun e => hc4 e.symm)
    refine w_skip <| w_reg <| wm rfl rfl <| wm rfl rfl <| wm rfl rfl <| wr_y rfl (y_index1 underlying24 sz3 rfl rfl (rdr 0 rfl) (by omega) (by omega)) <| wr_n (a_storeI 0 rfl sz3 rfl rfl (by omega) (by omega)) ?_
    rintro _ _ rfl
    refine wr_rows (R1 := [⟨3, 1, (some ⟨g_1, 0, none⟩), u.length, u.length, ints .i64 (upd L i m), false⟩]) rfl <| wr_nil <| w_reg <| wm rfl rfl <| wA rfl rfl rfl (by omega) <| wg rfl rfl <| wr_nil ?_
    exact ⟨i + 1, m, upd L i m, ⟨(by omega), (by omega), (by rw [upd_length]; exact hLl), (bord_step hi1 (by omega) hLl hM hmb), (by rw [show (i + 1).toNat = i.toNat + 1 by omega]; exact hmb)⟩, (by omega), (sc rfl (sc rfl (sc rfl (sc rfl Sub.nil)))), fun _ h => h⟩
 ·
  refine w_exit <| wq <| wm rfl rfl <| wg rfl rfl <| wr_nil <| w_retR (R1 := [⟨3, 1, (some ⟨g_1, 0, none⟩), u.length, u.length, ints .i64 L, false⟩]) (fun _ h => h.sel [0] (by decide) rfl) ?_
  refine ⟨_, rfl, ?_⟩
  exact ⟨_, _, L, by rw [hLl], hLl, fun j h0 h1 _ => hM j h0 (by omega) h1, by rw [hLl]⟩

set_option maxRecDepth 100000 in
theorem leastP_ct {w : World} {A_u : Option Addr} {n_u c_u : Nat} {u : List Int} (h_u : Rd w A_u n_u c_u 1 (ints .u8 u)) (hN : u.length ≤ 1000000) :
  Ct Tryz.prog 89 #[.slice A_u n_u c_u] w.heap.size w [] (fun v R' => v = .int .i64 (lp u)) := by
 obtain rfl := h_u.lenI
 refine fn1 Tryz.func89 rfl rfl rfl ?_
 have m_u := h_u.max
 refine wq <| wg rfl rfl <| wr_nil <| w_seq <| wq <| wm rfl rfl <| wr_y rfl (y_len underlying23 rfl) <| wr_y rfl (y_eq rfl rfl) <| wr_nil <| w_if rfl (fun hc1 => ?_) (fun hc1 => ?_)
 ·
  refine wq <| wg rfl rfl <| wr_nil <| w_ret ?_
  refine ⟨_, rfl, ?_⟩
  exact congrArg (Value.int .i64) (by rw [List.eq_nil_of_length_eq_zero (show u.length = 0 by omega)]; rfl)
 ·
  refine w_skip <| wq <| wm rfl rfl <| wr_y rfl (y_len underlying23 rfl) <| wm rfl rfl <| wr_a rfl (a_callF en122 rfl (Ct.fresh (fun w hw => borders_ct ((h_u.c _) w hw) (by first | assumption | omega | decide)))) ?_
  rintro _ _ ⟨_, rfl, A_1, c_2, L_3, rfl, hLl, hLM, rfl⟩
  refine wm rfl rfl <| wr_y rfl (y_len underlying23 rfl) <| wS rfl rfl rfl (by omega) <| wr_y rfl (y_index1 underlying24 sz3 rfl rfl (rdr 0 rfl) (by omega) (by omega)) <| wr_y rfl (y_ldI underlying3 rfl rfl (rdr 0 rfl) (by omega) (by omega)) <| wr_y rfl (y_subI rfl rfl (by have hq := (hLM (u.length - 1) (by omega) (by omega) (by omega)).bd; omega)) ?_
  refine wg rfl rfl <| wr_nil <| w_retR (R1 := []) (fun _ h => h.sel [] (by decide) rfl) ?_
  refine ⟨_, rfl, ?_⟩
  exact congrArg (Value.int .i64) (MB.least (by omega) (by have := hLM (u.length - 1) (by omega) (by omega) (by omega); rw [show ((u.length : Int) - 1 + 1).toNat = u.length by omega] at this; exact this))

set_option maxRecDepth 100000 in
theorem rootP_ct {w : World} {A_u : Option Addr} {n_u c_u : Nat} {u : List Int} (h_u : Rd w A_u n_u c_u 1 (ints .u8 u)) (hN : u.length ≤ 1000000) :
  Ct Tryz.prog 61 #[.slice A_u n_u c_u] w.heap.size w [] (fun v R' => ∃ (A : Option Addr) (c : Nat), v = .tuple #[.slice A (rootW u).length c, .int .i64 (timesW u)] ∧ R' = [⟨5, 1, A, (rootW u).length, c, ints .u8 (rootW u), false⟩]) := by
 obtain rfl := h_u.lenI
 refine fn2 Tryz.func61 rfl rfl rfl ?_
 have m_u := h_u.max
 refine wq <| wr_sub (R1 := [⟨5, 1, none, 0, 0, ints .u8 ([]), false⟩]) (Sub.refl _) (fun _ h => h.nil 5 1) <| wg rfl rfl <| wg rfl rfl <| wr_nil <| w_seq <| wq <| wm rfl rfl <| wr_y rfl (y_len underlying23 rfl) <| wr_y rfl (y_eq rfl rfl) <| wr_nil <| w_if rfl (fun hc1 => ?_) (fun hc1 => ?_)
 ·
  refine wq <| wg rfl rfl <| wg rfl rfl <| wr_nil <| w_retR (R1 := [⟨5, 1, none, 0, 0, ints .u8 ([]), false⟩]) (fun _ h => h.sel [0] (by decide) rfl) ?_
  refine ⟨_, _, rfl, rfl, ?_⟩
  obtain rfl := List.eq_nil_of_length_eq_zero (show u.length = 0 by omega)
  exact ⟨_, _, rfl, rfl⟩
 ·
  have hlp := lp_range (u := u) (by omega)
  refine w_skip <| wq <| wm rfl rfl <| wr_a rfl (a_callF en89 rfl (Ct.quiet (fun w hw => leastP_ct ((h_u.c _) w hw) (by first | assumption | omega | decide)))) ?_
  rintro _ _ ⟨rfl, rfl⟩
  refine wg rfl rfl <| wr_nil <| w_seq <| wq <| wm rfl rfl <| wr_y rfl (y_len underlying23 rfl) <| wm rfl rfl <| wr_y rfl (y_rem rfl rfl (by omega) (by omega)) <| wr_y rfl (y_ne rfl rfl) <| wr_nil <| w_if rfl (fun hc2 => ?_) (fun hc2 => ?_)
  ·
   refine w_reg <| wm rfl rfl <| wr_y rfl (y_len underlying23 rfl) <| wg rfl rfl <| wr_nil <| w_seq <| w_regd mixed <| wd_y 0 rfl (by kernel_rfl) rfl (y_move rfl) <| wd_y 1 rfl (by kernel_rfl) rfl (y_move rfl) <| wd_y 2 rfl (by kernel_rfl) rfl (y_sliceTo underlying23 sz5 rfl rfl (h_u.c _) (by omega) (by omega)) <| wd_y 4 rfl (by kernel_rfl) rfl (y_move rfl) <| wd_y 5 rfl (by kernel_rfl) rfl (y_len underlying23 rfl) <| wd_y 6 rfl (by kernel_rfl) rfl (y_move rfl) <| wd_y 7 rfl (by kernel_rfl) rfl (y_quoI rfl rfl (by omega) (by omega) (by omega)) <| wd_a 3 rfl (by kernel_rfl) rfl (a_callF en90 rfl (Ct.fresh (fun w hw => cloneB_ct ((RdC.toI (h_u.c _) (by omega)) w hw) (by rw [List.length_take]; omega)))) ?_
   rintro _ _ ⟨_, rfl, A_1, c_2, rfl, rfl⟩
   refine ⟨.inr fun _ h => h.right (R' := [_]), ?_⟩
   refine wd_y 8 rfl (by kernel_rfl) rfl (y_assign rfl) <| wd_y 9 rfl (by kernel_rfl) rfl (y_assign rfl) <| wd_nil (by kernel_rfl) <| w_retR (R1 := [⟨5, 1, A_1, ((u).take (((u.length : Nat) : Int)).toNat).length, c_2, ints .u8 ((u).take (((u.length : Nat) : Int)).toNat), false⟩]) (fun _ h => h.sel [0] (by decide) rfl) ?_
   refine ⟨_, _, rfl, rfl, ?_⟩
   have e : rl u = u.length := by unfold rl; rw [if_pos (by assumption)]
   unfold rootW timesW
   rw [e]
   exact ⟨_, _, rfl, rfl⟩
  ·
   refine w_skip <| w_seq <| w_regd mixed <| wd_y 0 rfl (by kernel_rfl) rfl (y_move rfl) <| wd_y 1 rfl (by kernel_rfl) rfl (y_move rfl) <| wd_y 2 rfl (by kernel_rfl) rfl (y_sliceTo underlying23 sz5 rfl rfl (h_u.c _) (by omega) (by omega)) <| wd_y 4 rfl (by kernel_rfl) rfl (y_move rfl) <| wd_y 5 rfl (by kernel_rfl) rfl (y_len underlying23 rfl) <| wd_y 6 rfl (by kernel_rfl) rfl (y_move rfl) <| wd_y 7 rfl (by kernel_rfl) rfl (y_quoI rfl rfl (by omega) (by omega) (by omega)) <| wd_a 3 rfl (by kernel_rfl) rfl (a_callF en90 rfl (Ct.fresh (fun w hw => cloneB_ct ((RdC.toI (h_u.c _) (by omega)) w hw) (by rw [List.length_take]; omega)))) ?_
   rintro _ _ ⟨_, rfl, A_4, c_5, rfl, rfl⟩
   refine ⟨.inr fun _ h => h.right (R' := [_]), ?_⟩
   refine wd_y 8 rfl (by kernel_rfl) rfl (y_assign rfl) <| wd_y 9 rfl (by kernel_rfl) rfl (y_assign rfl) <| wd_nil (by kernel_rfl) <| w_retR (R1 := [⟨5, 1, A_4, ((u).take (lp u).toNat).length, c_5, ints .u8 ((u).take (lp u).toNat), false⟩]) (fun _ h => h.sel [0] (by decide) rfl) ?_
   refine ⟨_, _, rfl, rfl, ?_⟩
   have e : rl u = lp u := by unfold rl; rw [if_neg (by assumption)]
   unfold rootW timesW
   rw [e]
   exact ⟨_, _, rfl, rfl⟩

end Go.Proofs.YtdfcnalkdlifiaaGreat

/-! ## S1 -/
namespace Go.Proofs
open Go.Shelf
def Tryz.laysSlF06_f55_ren : Go.Shelf.Ren := ⟨fun | 6 => 55 | 15 => 70 | 14 => 87 | 28 => 104 | 29 => 105 | 20 => 114 | 21 => 115 | 22 => 116 | 23 => 117 | 24 => 118 | 25 => 119 | 26 => 120 | 27 => 121 | 46 => 141 | 47 => 133 | 48 => 134 | 49 => 142 | 50 => 143 | 57 => 157 | n => n, fun | 22 => 43 | 24 => 45 | 25 => 107 | 3 => 3 | 39 => 79 | 0 => 0 | 53 => 115 | 55 => 118 | 4 => 4 | 46 => 134 | 45 => 133 | 50 => 138 | 5 => 5 | 9 => 9 | 66 => 157 | 70 => 161 | 76 => 168 | 77 => 169 | n => n, fun | n => n⟩
theorem Tryz.laysSlF06_f55 : Go.Proofs.SlLaysF0.n6 Tryz.prog Tryz.laysSlF06_f55_ren := {
 mixed := by kernel_rfl
 f6 := ⟨Tryz.f55.name, by decide, Tryz.func55.trans (congrArg some (by kernel_rfl))⟩
 f14 := ⟨Tryz.f87.name, by decide, Tryz.func87.trans (congrArg some (by kernel_rfl))⟩
 f15 := Tryz.func70.trans (congrArg some (by kernel_rfl))
 f20 := ⟨Tryz.f114.name, by decide, Tryz.func114.trans (congrArg some (by kernel_rfl))⟩
 f21 := ⟨Tryz.f115.name, by decide, Tryz.func115.trans (congrArg some (by kernel_rfl))⟩
 f22 := ⟨Tryz.f116.name, by decide, Tryz.func116.trans (congrArg some (by kernel_rfl))⟩
 f23 := ⟨Tryz.f117.name, by decide, Tryz.func117.trans (congrArg some (by kernel_rfl))⟩
 f24 := ⟨Tryz.f118.name, by decide, Tryz.func118.trans (congrArg some (by kernel_rfl))⟩
 f25 := ⟨Tryz.f119.name, by decide, Tryz.func119.trans (congrArg some (by kernel_rfl))⟩
 f26 := ⟨Tryz.f120.name, by decide, Tryz.func120.trans (congrArg some (by kernel_rfl))⟩
 f27 := ⟨Tryz.f121.name, by decide, Tryz.func121.trans (congrArg some (by kernel_rfl))⟩
 f28 := Tryz.func104.trans (congrArg some (by kernel_rfl))
 f29 := Tryz.func105.trans (congrArg some (by kernel_rfl))
 f46 := ⟨Tryz.f141.name, by decide, Tryz.func141.trans (congrArg some (by kernel_rfl))⟩
 f47 := Tryz.func133.trans (congrArg some (by kernel_rfl))
 f48 := Tryz.func134.trans (congrArg some (by kernel_rfl))
 f49 := ⟨Tryz.f142.name, by decide, Tryz.func142.trans (congrArg some (by kernel_rfl))⟩
 f50 := ⟨Tryz.f143.name, by decide, Tryz.func143.trans (congrArg some (by kernel_rfl))⟩
 f57 := ⟨Tryz.f157.name, by decide, Tryz.func157.trans (congrArg some (by kernel_rfl))⟩
 t0 := Tryz.underlying0
 a0 := Tryz.isAgg0
 z0 := Tryz.sizeOf0
 v0 := Tryz.zeroValue0
 t3 := Tryz.underlying3
 a3 := Tryz.isAgg3
 z3 := Tryz.sizeOf3
 v3 := Tryz.zeroValue3
 t4 := Tryz.underlying4
 a4 := Tryz.isAgg4
 z4 := Tryz.sizeOf4
 v4 := Tryz.zeroValue4
 t5 := Tryz.underlying5
 a5 := Tryz.isAgg5
 z5 := Tryz.sizeOf5
 v5 := Tryz.zeroValue5
 t9 := Tryz.underlying9
 a9 := Tryz.isAgg9
 z9 := Tryz.sizeOf9
 v9 := Tryz.zeroValue9
 t22 := Tryz.underlying43
 a22 := Tryz.isAgg43
 z22 := Tryz.sizeOf43
 v22 := Tryz.zeroValue43
 t25 := Tryz.underlying107
 a25 := Tryz.isAgg107
 z25 := Tryz.sizeOf107
 v25 := Tryz.zeroValue107
 t39 := Tryz.underlying79
 a39 := Tryz.isAgg79
 z39 := Tryz.sizeOf79
 v39 := Tryz.zeroValue79
 t45 := Tryz.underlying133
 a45 := Tryz.isAgg133
 z45 := Tryz.sizeOf133
 v45 := Tryz.zeroValue133
 t46 := Tryz.underlying134
 a46 := Tryz.isAgg134
 z46 := Tryz.sizeOf134
 v46 := Tryz.zeroValue134
 t50 := Tryz.underlying138
 a50 := Tryz.isAgg138
 z50 := Tryz.sizeOf138
 v50 := Tryz.zeroValue138
 t53 := Tryz.underlying115
 a53 := Tryz.isAgg115
 z53 := Tryz.sizeOf115
 v53 := Tryz.zeroValue115
 t55 := Tryz.underlying118
 a55 := Tryz.isAgg118
 z55 := Tryz.sizeOf118
 v55 := Tryz.zeroValue118
 t66 := Tryz.underlying157
 a66 := Tryz.isAgg157
 z66 := Tryz.sizeOf157
 v66 := Tryz.zeroValue157
 t70 := Tryz.underlying161
 a70 := Tryz.isAgg161
 z70 := Tryz.sizeOf161
 v70 := Tryz.zeroValue161
 t76 := Tryz.underlying168
 a76 := Tryz.isAgg168
 z76 := Tryz.sizeOf168
 v76 := Tryz.zeroValue168
 t77 := Tryz.underlying169
 a77 := Tryz.isAgg169
 z77 := Tryz.sizeOf169
 v77 := Tryz.zeroValue169 }
open Go.RowKit Go.Lib Go.Sort in
/-- **slices.SortFunc, IN THE DOCUMENTATION's OWN TERMS: A PERMUTATION OF WHAT THE ROW HELD, SORTED BY 'cmp(a, b) < 0'.** Which of two equals comes first is left open ("The sort is not guaranteed to be stable"). (LAID AT THE INSTANCE 'slices.SortFunc[[][2]int,[2]int]': no walk: one application.) -/
theorem Tryz.slices_SortFunc {α : Type} [Inhabited α] (k : Nat) (aE : ∀ w, (isAgg 45).run Tryz.prog w = .ok true w) (zE : ∀ w, (Go.sizeOf 45).run Tryz.prog w = .ok k w) (enc : α → List Value) (hk : ∀ x, (enc x).length = k) (h1 : ∀ x, ∀ v ∈ enc x, v.oneCell' = true) (cf : α → α → Int) (hO : SWO (ltOf cf)) (g : Nat) (cb : Array Value) (blk off cap : Nat) (d : Array α) (w : World) (eg : ∀ args w, (callFunc g args).run Tryz.prog w = .ok (.enter g args) w) (hcmp : CmpLays Tryz.prog g cb enc k cf blk off d.size w) (hH : HoldsK enc k w blk off d) (hblk : blk < w.heap.size) (hsz : d.size < 4611686018427387904) :
  Calls Tryz.prog 55 #[.slice (some ⟨blk, off, none⟩) d.size cap, .func (.func g) #[] cb] w fun e w' =>
   e = .returned (.tuple #[]) ∧ ∃ d' n os, PermIn 0 d.size d d' ∧ SortedIn (ltOf cf) 0 d.size d' ∧ w' = sortWorldK enc k w blk off n d' os := AnyQ.slices_SortFunc Tryz.laysSlF06_f55 k aE zE enc hk h1 cf hO g cb blk off cap d w eg hcmp hH hblk hsz
end Go.Proofs

