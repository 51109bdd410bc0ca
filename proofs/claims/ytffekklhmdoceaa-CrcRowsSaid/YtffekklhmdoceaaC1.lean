/-
  sync.Once over a Crc's row: the lock, the two deferred calls, the slow road, and the whole. Own work, after the kit's worked proof of sync.Once.
-/
import Derived.Test.YtffekklhmdoceaaT
import Derived.Test.YtffekklhmdoceaaQ4
import Derived.Tactics
import Derived.Tactics2
import Derived.Defers
import Derived.Laws.Pointers
import Derived.Laws.LoneSync
import Derived.RegionTactic
import Derived.RegionCalls
import Derived.ChangeAlike
namespace Go.Proofs.Ytffekklhmdoceaa
open Go Go.Eng Go.Pure
theorem raceDisable (w : World) : (callFunc 70 #[]).run Try.prog w = .ok (.value (.tuple #[])) w := run_call_mark0 Try.func70 (by kernel_rfl) (by kernel_rfl) (by kernel_rfl) .disable (by kernel_rfl) w
theorem raceEnable (w : World) : (callFunc 72 #[]).run Try.prog w = .ok (.value (.tuple #[])) w := run_call_mark0 Try.func72 (by kernel_rfl) (by kernel_rfl) (by kernel_rfl) .enable (by kernel_rfl) w
theorem raceAcquire (a : Addr) (w : World) : (callFunc 73 #[.pointer (some a)]).run Try.prog w = .ok (.value (.tuple #[])) w := run_call_marked Try.func73 (by kernel_rfl) (by kernel_rfl) (by kernel_rfl) .acquire (by kernel_rfl) a w
theorem raceReleaseMerge (a : Addr) (w : World) : (callFunc 75 #[.pointer (some a)]).run Try.prog w = .ok (.value (.tuple #[])) w := run_call_marked Try.func75 (by kernel_rfl) (by kernel_rfl) (by kernel_rfl) .releaseMerge (by kernel_rfl) a w
theorem storeDeferred (a : Addr) (x : Value) (u : FrameMode) (w : World) (hc : w.cell? a = some x) (hz : w.frozen? a = false) :
    CallsD Try.prog 52 #[.pointer (some a), .bool true] u w fun e u' w' => u' = u ∧ (e = .returned (.tuple #[]) ∧ w' = w.drew.setCell a (.int .u32 1)) := by
  have hc' : w.drew.cell? a = some x := by go_simp
  have hz' : w.drew.frozen? a = false := by go_simp
  have hst := run_call_store (P := Try.prog) Try.func58 (by kernel_rfl) (by kernel_rfl) (by kernel_rfl) (by kernel_rfl) (k := .u32) (y := 1) hc' hz'
  go_enter_d Try.func52, Try.ntmps52
  go_wp2
  go_region_calls
  all_goals (go_end0; exact ⟨rfl, rfl⟩)
set_option maxRecDepth 100000 in
theorem unlockDeferred (a : Addr) (u : FrameMode) (w : World) (hc : w.cell? a = some (.int .i32 1)) (hz : w.frozen? a = false) :
    CallsD Try.prog 51 #[.pointer (some a)] u w fun e u' w' => u' = u ∧ (e = .returned (.tuple #[]) ∧ w' = w.setCell a (.int .i32 0)) := by
  have hd := raceDisable
  have he := raceEnable
  have hr := raceReleaseMerge
  have hadd := run_call_add (P := Try.prog) Try.func53 (by kernel_rfl) (by kernel_rfl) (by kernel_rfl) .i32 (by kernel_rfl) (y := -1) (s := 0) hc hz (by simp [go_sem]; rfl)
  have hcv := run_convert_to_unsafe (P := Try.prog) (src := 110) (dst := 113) Try.underlying110 Try.underlying113 (by kernel_rfl) hc
  go_enter_d Try.func51, Try.ntmps51
  go_wp2
  go_end0
  go_wp2
  go_end0
  exact ⟨rfl, rfl⟩
set_option maxRecDepth 100000 in
theorem lockFree (a : Addr) (w : World) (hc : w.cell? a = some (.int .i32 0)) (hz : w.frozen? a = false) :
    Calls Try.prog 50 #[.pointer (some a)] w fun e w' => e = .returned (.tuple #[]) ∧ w' = w.setCell a (.int .i32 1) := by
  have hd := raceDisable
  have he := raceEnable
  have ha := raceAcquire
  have hcas := run_call_cas_hit (P := Try.prog) Try.func71 (by kernel_rfl) (by kernel_rfl) (by kernel_rfl) .i32 (by kernel_rfl) (y := 1) hc hz
  have hc' : (w.setCell a (.int .i32 1)).cell? a = some (.int .i32 1) := World.cell?_setCell_same w a _ hc
  have hcv := run_convert_to_unsafe (P := Try.prog) (src := 110) (dst := 113) Try.underlying110 Try.underlying113 (by kernel_rfl) hc'
  go_enter Try.func50, Try.ntmps50
  go_wp2
  first | go_end0 | (simp only [Exit.inBlock, Exit.then]; refine bodyPost_ret (results_none rfl _ _ _) rfl ?_) | refine bodyPost_ret (results_none rfl _ _ _) rfl ?_
  go_wp2
  go_end0
  exact ⟨rfl, rfl⟩
section
variable {B : Nat} {w0 : World} {R : List Row} {T g : Nat} {r r' : Int} {t t' : List Int}
theorem crc_free {w : World} {d s : Int} (h : Hp B w0 w (crcRow T g d s r t :: R)) (j : Nat) : w.frozen? ⟨g, j, none⟩ = false := h.openAt 0 j rfl rfl rfl
theorem crc_done {w : World} {d s : Int} (h : Hp B w0 w (crcRow T g d s r t :: R)) : w.cell? ⟨g, 0, none⟩ = some (.int .u32 d) := h.cellAt 0 (r := crcRow T g d s r t) (j := 0) rfl rfl rfl
theorem crc_lock {w : World} {d s : Int} (h : Hp B w0 w (crcRow T g d s r t :: R)) : w.cell? ⟨g, 1, none⟩ = some (.int .i32 s) := h.cellAt 0 (r := crcRow T g d s r t) (j := 1) rfl rfl rfl
theorem crc_runs {w : World} {d s : Int} (h : Hp B w0 w (crcRow T g d s r t :: R)) : w.cell? ⟨g, 3, none⟩ = some (.int .i32 r) := h.cellAt 0 (r := crcRow T g d s r t) (j := 3) rfl rfl rfl
theorem crc_setDone {w : World} {d s : Int} (h : Hp B w0 w (crcRow T g d s r t :: R)) (x : Int) : Hp B w0 (w.setCell ⟨g, 0, none⟩ (.int .u32 x)) (crcRow T g x s r t :: R) := h.set1 0 (r := crcRow T g d s r t) (j := 0) (v := .int .u32 x) rfl rfl rfl
theorem crc_setLock {w : World} {d s : Int} (h : Hp B w0 w (crcRow T g d s r t :: R)) (x : Int) : Hp B w0 (w.setCell ⟨g, 1, none⟩ (.int .i32 x)) (crcRow T g d x r t :: R) := h.set1 0 (r := crcRow T g d s r t) (j := 1) (v := .int .i32 x) rfl rfl rfl
theorem crc_setRuns {w : World} {d s : Int} (h : Hp B w0 w (crcRow T g d s r t :: R)) (x : Int) : Hp B w0 (w.setCell ⟨g, 3, none⟩ (.int .i32 x)) (crcRow T g d s x t :: R) := h.set1 0 (r := crcRow T g d s r t) (j := 3) (v := .int .i32 x) rfl rfl rfl
theorem crc_drew {w : World} {R : List Row} (h : Hp B w0 w R) : Hp B w0 w.drew R := h.drawn _
set_option maxRecDepth 100000 in
set_option maxHeartbeats 1600000 in
theorem onceSlow {w : World} (hh : Hp B w0 w (crcRow T g 0 0 r t :: R)) (hm : ∀ w, Hp B w0 w (crcRow T g 0 1 r t :: R) → Calls Try.prog 33 #[.pointer (some ⟨g, 0, none⟩)] w fun e w' => e = .returned (.tuple #[]) ∧ Hp B w0 w' (crcRow T g 0 1 r' t' :: R)) :
    Calls Try.prog 41 #[.pointer (some ⟨g, 0, none⟩), .func (.func 33) #[.pointer (some ⟨g, 0, none⟩)] #[]] w fun e w' => e = .returned (.tuple #[]) ∧ Hp B w0 w' (crcRow T g 1 0 r' t' :: R) := by
  have h1 := crc_setLock hh 1
  have hl := run_call_load (P := Try.prog) Try.func49 (by kernel_rfl) (by kernel_rfl) (by kernel_rfl) .u32 (by kernel_rfl) (crc_done h1)
  have hnot : ∀ (x : Bool) (w : World), (Op.unary .not (.bool x)).run Try.prog w = .ok (.bool (!x)) w := fun _ _ => rfl
  have k1 := crc_lock hh
  have k2 := crc_free hh 1
  go_enter_defers Try.func41, Try.ntmps41
  go_wp2_with (first | (go_at_call 50; refine (lockFree ⟨g, 1, none⟩ _ (by go_simp) (by go_simp)).mono ?_; rintro e w' ⟨rfl, rfl⟩) | (go_at_call 33; refine (hm _ h1).mono ?_; rintro e w' ⟨rfl, h2⟩) | (go_at_call 40; go_in))

  refine leaves_cons (f := 52) (args := #[.pointer (some ⟨g, 0, none⟩), .bool true]) (by simp) (by simp [go_sem]) ?_
  refine (storeDeferred ⟨g, 0, none⟩ _ .returning _ (crc_done h2) (crc_free h2 0)).mono ?_
  rintro e u' w'' ⟨rfl, rfl, rfl⟩
  have h3 := crc_setDone (crc_drew h2) 1
  refine leaves_cons (f := 51) (args := #[.pointer (some ⟨g, 1, none⟩)]) (by simp [settle]) (by simp [go_sem]) ?_
  refine (unlockDeferred ⟨g, 1, none⟩ _ _ (crc_lock h3) (crc_free h3 1)).mono ?_
  rintro e u' w'' ⟨rfl, rfl, rfl⟩
  have h4 := crc_setLock h3 0
  simp [Leaves, settle, results, Try.results41]
  exact h4
set_option maxRecDepth 100000 in
set_option maxHeartbeats 1600000 in
theorem onceFirst (hm : ∀ w, Hp B w0 w (crcRow T g 0 1 r t :: R) → Calls Try.prog 33 #[.pointer (some ⟨g, 0, none⟩)] w fun e w' => e = .returned (.tuple #[]) ∧ Hp B w0 w' (crcRow T g 0 1 r' t' :: R)) :
    Ct Try.prog 32 #[.pointer (some ⟨g, 0, none⟩), .func (.func 33) #[.pointer (some ⟨g, 0, none⟩)] #[]] B w0 (crcRow T g 0 0 r t :: R) (fun v R' => v = .tuple #[] ∧ R' = crcRow T g 1 0 r' t' :: R) := by
  intro w hh
  have hl := run_call_load (P := Try.prog) Try.func49 (by kernel_rfl) (by kernel_rfl) (by kernel_rfl) .u32 (by kernel_rfl) (crc_done hh)
  have hnot : ∀ (x : Bool) (w : World), (Op.unary .not (.bool x)).run Try.prog w = .ok (.bool (!x)) w := fun _ _ => rfl
  go_enter Try.func32, Try.ntmps32
  go_wp2_with (first | (go_at_call 41; refine (onceSlow hh hm).mono ?_; rintro e w' ⟨rfl, h2⟩) | (go_at_call 40; go_in))
  go_end0
  exact ⟨_, _, rfl, h2, rfl, rfl⟩
theorem onceDone {fv : Value} : Ct Try.prog 32 #[.pointer (some ⟨g, 0, none⟩), fv] B w0 (crcRow T g 1 0 r t :: R) (fun v R' => v = .tuple #[] ∧ R' = crcRow T g 1 0 r t :: R) := by
  intro w hh
  have hl := run_call_load (P := Try.prog) Try.func49 (by kernel_rfl) (by kernel_rfl) (by kernel_rfl) .u32 (by kernel_rfl) (crc_done hh)
  have hnot : ∀ (x : Bool) (w : World), (Op.unary .not (.bool x)).run Try.prog w = .ok (.bool (!x)) w := fun _ _ => rfl
  go_enter Try.func32, Try.ntmps32
  go_wp2
  go_end0
  exact ⟨_, _, rfl, hh, rfl, rfl⟩
theorem runsAdd (hr : 0 ≤ r ∧ r < 1000000) : ∀ {d s : Int} {w : World}, Hp B w0 w (crcRow T g d s r t :: R) → ∃ w', (callFunc 53 #[.pointer (some ⟨g, 3, none⟩), .int .i32 1]).run Try.prog w = .ok (.value (.int .i32 (r + 1))) w' ∧ Hp B w0 w' (crcRow T g d s (r + 1) t :: R) := by
  intro d s w hh
  refine ⟨_, run_call_add (P := Try.prog) Try.func53 (by kernel_rfl) (by kernel_rfl) (by kernel_rfl) .i32 (by kernel_rfl) (y := 1) (s := r + 1) (crc_runs hh) (crc_free hh 3) ?_, crc_setRuns hh (r + 1)⟩
  have : IntKind.i32.wrap (r + 1) = r + 1 := by rw [IntKind.wrap_i32]; omega
  simp [Op.intArith, this]
theorem runsLoad : ∀ {d s : Int} {w : World}, Hp B w0 w (crcRow T g d s r t :: R) → ∃ w', (callFunc 43 #[.pointer (some ⟨g, 3, none⟩)]).run Try.prog w = .ok (.value (.int .i32 r)) w' ∧ Hp B w0 w' (crcRow T g d s r t :: R) :=
  fun hh => ⟨_, run_call_load (P := Try.prog) Try.func43 (by kernel_rfl) (by kernel_rfl) (by kernel_rfl) .i32 (by kernel_rfl) (crc_runs hh), hh⟩
end
end Go.Proofs.Ytffekklhmdoceaa
