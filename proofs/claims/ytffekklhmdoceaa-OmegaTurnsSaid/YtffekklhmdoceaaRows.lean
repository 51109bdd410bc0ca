/-
  No cell of these rows narrows 'for every input' (looked for: loops, veiled, ifaces, maps, wideKeys, modest, calm, conditions, laid).
  DERIVED. THE GIVEN ROWS OF THIS SEAT. 10 by the template 'for every input the law returns true; each argument reads behind the call as it read before'; 0 by the template 'total and deterministic' (their statements: YtffekklhmdoceaaTotals.lean).
  GIVEN WITH THE SEED: the statements are not yours to turn. If you find one false, say at which input.
  Laid BY PROGRAM, IN A SANDBOX (cutbox-rows.mjs): the forced cells as the released guide's own fill.sh prints them over the translation 9de18bc1edfcc979… (all of the seat's roots in one cut). By AI agents, Wed Nov 11 2026. No macro, syntax, notation, axiom, sorry.
-/
import Derived.Test.YtffekklhmdoceaaChecked
import GoSem.Claim
import GoSem.ClaimJoined
import GoSem.ClaimMapViews
import Derived.JoinedTies
import Derived.KernelRfl
namespace Go.Proofs.Ytffekklhmdoceaa
/- THE CELL 'sum', in the pinned program and in every row, IS THE sha256 OF THE DUMP (.gsa) THAT YtffekklhmdoceaaProg.lean LOADS. Nothing in Lean hashes anything: it is a label: what it is worth is what the hold of that sum in a sandbox is worth. -/
noncomputable def Try.pinned : Pinned := { name := "ytffekklhmdoceaa", sum := "9de18bc1edfcc9793c2a62c90239d6e8e39c0b9d9a5f24465413ce8ad8046812", checked := Try.checked }
namespace Rows
def none {H : Type} : Left H := { results := [], args := [] }

/-- 'whorllaw8.OmegaCompares': WHATEVER THE INPUT: true; the input reads as it did. -/
def omegaComparesSpec : ChangeSpec := { name := "omegaCompares", fn := fun _ => fun
  | [d1, d2] => { results := [.lit (.bool true)], args := [d1, d2] }
  | _ => none }
def omegaComparesRow : OpenClaim := { program := "ytffekklhmdoceaa", sum := "9de18bc1edfcc9793c2a62c90239d6e8e39c0b9d9a5f24465413ce8ad8046812", func := "whorl/whorllaw8.OmegaCompares", spec := "omegaCompares", apart := false }
def OmegaComparesSaid : Prop := omegaComparesRow.holds Try.pinned (OpenSpec.ofChange omegaComparesSpec)

/-- ITS FALSE NEIGHBOUR: 'it returns false'. Refute it at one input. -/
def omegaComparesWrong : ChangeSpec := { name := "omegaCompares", fn := fun _ => fun
  | [d1, d2] => { results := [.lit (.bool false)], args := [d1, d2] }
  | _ => none }
def OmegaComparesWrongFalsely : Prop := omegaComparesRow.holds Try.pinned (OpenSpec.ofChange omegaComparesWrong)

/-- 'whorllaw8.OmegaSame': WHATEVER THE INPUT: true; the input reads as it did. -/
def omegaSameSpec : ChangeSpec := { name := "omegaSame", fn := fun _ => fun
  | [d1, d2, d3, d4] => { results := [.lit (.bool true)], args := [d1, d2, d3, d4] }
  | _ => none }
def omegaSameRow : OpenClaim := { program := "ytffekklhmdoceaa", sum := "9de18bc1edfcc9793c2a62c90239d6e8e39c0b9d9a5f24465413ce8ad8046812", func := "whorl/whorllaw8.OmegaSame", spec := "omegaSame", apart := false }
def OmegaSameSaid : Prop := omegaSameRow.holds Try.pinned (OpenSpec.ofChange omegaSameSpec)

/-- ITS FALSE NEIGHBOUR: 'it returns false'. Refute it at one input. -/
def omegaSameWrong : ChangeSpec := { name := "omegaSame", fn := fun _ => fun
  | [d1, d2, d3, d4] => { results := [.lit (.bool false)], args := [d1, d2, d3, d4] }
  | _ => none }
def OmegaSameWrongFalsely : Prop := omegaSameRow.holds Try.pinned (OpenSpec.ofChange omegaSameWrong)

/-- 'whorllaw8.OmegaLong': WHATEVER THE INPUT: true; the input reads as it did. -/
def omegaLongSpec : ChangeSpec := { name := "omegaLong", fn := fun _ => fun
  | [d1, d2] => { results := [.lit (.bool true)], args := [d1, d2] }
  | _ => none }
def omegaLongRow : OpenClaim := { program := "ytffekklhmdoceaa", sum := "9de18bc1edfcc9793c2a62c90239d6e8e39c0b9d9a5f24465413ce8ad8046812", func := "whorl/whorllaw8.OmegaLong", spec := "omegaLong", apart := false }
def OmegaLongSaid : Prop := omegaLongRow.holds Try.pinned (OpenSpec.ofChange omegaLongSpec)

/-- ITS FALSE NEIGHBOUR: 'it returns false'. Refute it at one input. -/
def omegaLongWrong : ChangeSpec := { name := "omegaLong", fn := fun _ => fun
  | [d1, d2] => { results := [.lit (.bool false)], args := [d1, d2] }
  | _ => none }
def OmegaLongWrongFalsely : Prop := omegaLongRow.holds Try.pinned (OpenSpec.ofChange omegaLongWrong)

/-- 'whorllaw8.OmegaOrder': WHATEVER THE INPUT: true; the input reads as it did. -/
def omegaOrderSpec : ChangeSpec := { name := "omegaOrder", fn := fun _ => fun
  | [d1, d2, d3] => { results := [.lit (.bool true)], args := [d1, d2, d3] }
  | _ => none }
def omegaOrderRow : OpenClaim := { program := "ytffekklhmdoceaa", sum := "9de18bc1edfcc9793c2a62c90239d6e8e39c0b9d9a5f24465413ce8ad8046812", func := "whorl/whorllaw8.OmegaOrder", spec := "omegaOrder", apart := false }
def OmegaOrderSaid : Prop := omegaOrderRow.holds Try.pinned (OpenSpec.ofChange omegaOrderSpec)

/-- ITS FALSE NEIGHBOUR: 'it returns false'. Refute it at one input. -/
def omegaOrderWrong : ChangeSpec := { name := "omegaOrder", fn := fun _ => fun
  | [d1, d2, d3] => { results := [.lit (.bool false)], args := [d1, d2, d3] }
  | _ => none }
def OmegaOrderWrongFalsely : Prop := omegaOrderRow.holds Try.pinned (OpenSpec.ofChange omegaOrderWrong)

/-- 'whorllaw2.CrcSums': WHATEVER THE INPUT: true; the input reads as it did. -/
def crcSumsSpec : ChangeSpec := { name := "crcSums", fn := fun _ => fun
  | [d] => { results := [.lit (.bool true)], args := [d] }
  | _ => none }
def crcSumsRow : OpenClaim := { program := "ytffekklhmdoceaa", sum := "9de18bc1edfcc9793c2a62c90239d6e8e39c0b9d9a5f24465413ce8ad8046812", func := "whorl/whorllaw2.CrcSums", spec := "crcSums", inPlace := ["sync/atomic.AddInt32", "sync/atomic.LoadUint32", "(*internal/sync.Mutex).Lock", "internal/race.Disable", "sync/atomic.CompareAndSwapInt32", "internal/race.Enable", "internal/race.Acquire", "(*internal/sync.Mutex).lockSlow", "internal/sync.runtime_canSpin", "internal/sync.runtime_doSpin", "internal/sync.throw", "internal/sync.runtime_nanotime", "internal/sync.runtime_SemacquireMutex", "(*internal/sync.Mutex).Unlock", "internal/race.ReleaseMerge", "(*internal/sync.Mutex).unlockSlow", "internal/sync.fatal", "internal/sync.runtime_Semrelease", "sync/atomic.StoreUint32", "sync/atomic.LoadInt32"], unfollowed := true, recurses := true, apart := false }
def CrcSumsSaid : Prop := crcSumsRow.holds Try.pinned (OpenSpec.ofChange crcSumsSpec)

/-- ITS FALSE NEIGHBOUR: 'it returns false'. Refute it at one input. -/
def crcSumsWrong : ChangeSpec := { name := "crcSums", fn := fun _ => fun
  | [d] => { results := [.lit (.bool false)], args := [d] }
  | _ => none }
def CrcSumsWrongFalsely : Prop := crcSumsRow.holds Try.pinned (OpenSpec.ofChange crcSumsWrong)

/-- 'whorllaw2.CrcTurned': WHATEVER THE INPUT: true; the input reads as it did. -/
def crcTurnedSpec : ChangeSpec := { name := "crcTurned", fn := fun _ => fun
  | [d1, d2, d3] => { results := [.lit (.bool true)], args := [d1, d2, d3] }
  | _ => none }
def crcTurnedRow : OpenClaim := { program := "ytffekklhmdoceaa", sum := "9de18bc1edfcc9793c2a62c90239d6e8e39c0b9d9a5f24465413ce8ad8046812", func := "whorl/whorllaw2.CrcTurned", spec := "crcTurned", inPlace := ["sync/atomic.AddInt32", "sync/atomic.LoadUint32", "(*internal/sync.Mutex).Lock", "internal/race.Disable", "sync/atomic.CompareAndSwapInt32", "internal/race.Enable", "internal/race.Acquire", "(*internal/sync.Mutex).lockSlow", "internal/sync.runtime_canSpin", "internal/sync.runtime_doSpin", "internal/sync.throw", "internal/sync.runtime_nanotime", "internal/sync.runtime_SemacquireMutex", "(*internal/sync.Mutex).Unlock", "internal/race.ReleaseMerge", "(*internal/sync.Mutex).unlockSlow", "internal/sync.fatal", "internal/sync.runtime_Semrelease", "sync/atomic.StoreUint32", "sync/atomic.LoadInt32"], unfollowed := true, recurses := true, apart := false }
def CrcTurnedSaid : Prop := crcTurnedRow.holds Try.pinned (OpenSpec.ofChange crcTurnedSpec)

/-- ITS FALSE NEIGHBOUR: 'it returns false'. Refute it at one input. -/
def crcTurnedWrong : ChangeSpec := { name := "crcTurned", fn := fun _ => fun
  | [d1, d2, d3] => { results := [.lit (.bool false)], args := [d1, d2, d3] }
  | _ => none }
def CrcTurnedWrongFalsely : Prop := crcTurnedRow.holds Try.pinned (OpenSpec.ofChange crcTurnedWrong)

/-- 'whorllaw2.CrcNext': WHATEVER THE INPUT: true; the input reads as it did. -/
def crcNextSpec : ChangeSpec := { name := "crcNext", fn := fun _ => fun
  | [d1, d2] => { results := [.lit (.bool true)], args := [d1, d2] }
  | _ => none }
def crcNextRow : OpenClaim := { program := "ytffekklhmdoceaa", sum := "9de18bc1edfcc9793c2a62c90239d6e8e39c0b9d9a5f24465413ce8ad8046812", func := "whorl/whorllaw2.CrcNext", spec := "crcNext", inPlace := ["sync/atomic.AddInt32", "sync/atomic.LoadUint32", "(*internal/sync.Mutex).Lock", "internal/race.Disable", "sync/atomic.CompareAndSwapInt32", "internal/race.Enable", "internal/race.Acquire", "(*internal/sync.Mutex).lockSlow", "internal/sync.runtime_canSpin", "internal/sync.runtime_doSpin", "internal/sync.throw", "internal/sync.runtime_nanotime", "internal/sync.runtime_SemacquireMutex", "(*internal/sync.Mutex).Unlock", "internal/race.ReleaseMerge", "(*internal/sync.Mutex).unlockSlow", "internal/sync.fatal", "internal/sync.runtime_Semrelease", "sync/atomic.StoreUint32", "sync/atomic.LoadInt32"], unfollowed := true, recurses := true, apart := false }
def CrcNextSaid : Prop := crcNextRow.holds Try.pinned (OpenSpec.ofChange crcNextSpec)

/-- ITS FALSE NEIGHBOUR: 'it returns false'. Refute it at one input. -/
def crcNextWrong : ChangeSpec := { name := "crcNext", fn := fun _ => fun
  | [d1, d2] => { results := [.lit (.bool false)], args := [d1, d2] }
  | _ => none }
def CrcNextWrongFalsely : Prop := crcNextRow.holds Try.pinned (OpenSpec.ofChange crcNextWrong)

/-- 'whorllaw2.CrcTable': WHATEVER THE INPUT: true; the input reads as it did. -/
def crcTableSpec : ChangeSpec := { name := "crcTable", fn := fun _ => fun
  | [d1, d2] => { results := [.lit (.bool true)], args := [d1, d2] }
  | _ => none }
def crcTableRow : OpenClaim := { program := "ytffekklhmdoceaa", sum := "9de18bc1edfcc9793c2a62c90239d6e8e39c0b9d9a5f24465413ce8ad8046812", func := "whorl/whorllaw2.CrcTable", spec := "crcTable", inPlace := ["sync/atomic.AddInt32", "sync/atomic.LoadUint32", "(*internal/sync.Mutex).Lock", "internal/race.Disable", "sync/atomic.CompareAndSwapInt32", "internal/race.Enable", "internal/race.Acquire", "(*internal/sync.Mutex).lockSlow", "internal/sync.runtime_canSpin", "internal/sync.runtime_doSpin", "internal/sync.throw", "internal/sync.runtime_nanotime", "internal/sync.runtime_SemacquireMutex", "(*internal/sync.Mutex).Unlock", "internal/race.ReleaseMerge", "(*internal/sync.Mutex).unlockSlow", "internal/sync.fatal", "internal/sync.runtime_Semrelease", "sync/atomic.StoreUint32", "sync/atomic.LoadInt32"], unfollowed := true, recurses := true, apart := false }
def CrcTableSaid : Prop := crcTableRow.holds Try.pinned (OpenSpec.ofChange crcTableSpec)

/-- ITS FALSE NEIGHBOUR: 'it returns false'. Refute it at one input. -/
def crcTableWrong : ChangeSpec := { name := "crcTable", fn := fun _ => fun
  | [d1, d2] => { results := [.lit (.bool false)], args := [d1, d2] }
  | _ => none }
def CrcTableWrongFalsely : Prop := crcTableRow.holds Try.pinned (OpenSpec.ofChange crcTableWrong)

/-- 'whorllaw2.CrcRows': WHATEVER THE INPUT: true; the input reads as it did. -/
def crcRowsSpec : ChangeSpec := { name := "crcRows", fn := fun _ => fun
  | [d] => { results := [.lit (.bool true)], args := [d] }
  | _ => none }
def crcRowsRow : OpenClaim := { program := "ytffekklhmdoceaa", sum := "9de18bc1edfcc9793c2a62c90239d6e8e39c0b9d9a5f24465413ce8ad8046812", func := "whorl/whorllaw2.CrcRows", spec := "crcRows", inPlace := ["sync/atomic.AddInt32", "sync/atomic.LoadUint32", "(*internal/sync.Mutex).Lock", "internal/race.Disable", "sync/atomic.CompareAndSwapInt32", "internal/race.Enable", "internal/race.Acquire", "(*internal/sync.Mutex).lockSlow", "internal/sync.runtime_canSpin", "internal/sync.runtime_doSpin", "internal/sync.throw", "internal/sync.runtime_nanotime", "internal/sync.runtime_SemacquireMutex", "(*internal/sync.Mutex).Unlock", "internal/race.ReleaseMerge", "(*internal/sync.Mutex).unlockSlow", "internal/sync.fatal", "internal/sync.runtime_Semrelease", "sync/atomic.StoreUint32", "sync/atomic.LoadInt32"], unfollowed := true, recurses := true, apart := false }
def CrcRowsSaid : Prop := crcRowsRow.holds Try.pinned (OpenSpec.ofChange crcRowsSpec)

/-- ITS FALSE NEIGHBOUR: 'it returns false'. Refute it at one input. -/
def crcRowsWrong : ChangeSpec := { name := "crcRows", fn := fun _ => fun
  | [d] => { results := [.lit (.bool false)], args := [d] }
  | _ => none }
def CrcRowsWrongFalsely : Prop := crcRowsRow.holds Try.pinned (OpenSpec.ofChange crcRowsWrong)

/-- 'whorllaw8.OmegaTurns': WHATEVER THE INPUT: true; the input reads as it did. -/
def omegaTurnsSpec : ChangeSpec := { name := "omegaTurns", fn := fun _ => fun
  | [d] => { results := [.lit (.bool true)], args := [d] }
  | _ => none }
def omegaTurnsRow : OpenClaim := { program := "ytffekklhmdoceaa", sum := "9de18bc1edfcc9793c2a62c90239d6e8e39c0b9d9a5f24465413ce8ad8046812", func := "whorl/whorllaw8.OmegaTurns", spec := "omegaTurns", unfollowed := true, recurses := true, apart := false }
def OmegaTurnsSaid : Prop := omegaTurnsRow.holds Try.pinned (OpenSpec.ofChange omegaTurnsSpec)

/-- ITS FALSE NEIGHBOUR: 'it returns false'. Refute it at one input. -/
def omegaTurnsWrong : ChangeSpec := { name := "omegaTurns", fn := fun _ => fun
  | [d] => { results := [.lit (.bool false)], args := [d] }
  | _ => none }
def OmegaTurnsWrongFalsely : Prop := omegaTurnsRow.holds Try.pinned (OpenSpec.ofChange omegaTurnsWrong)

/- THE SECOND FORM. 'bulk': how many values and letters a reading holds, each counted each time it is reached (what is shared counts as often as it is met; a slice's spare places count too). A statement '..UptoSaid' is the law's where the arguments, and the package variables that the reading takes, are together of bulk at most 1048576: NARROWER than '..Said'. Prove '..Said' where nothing that the law and all that it calls make is longer than what came in: it says more and counts as full. Else prove '..UptoSaid'. A law counts once. -/
mutual
def uptoBulk {H : Type} : DataW H → Nat
  | .lit (.string bytes) => bytes.length + 1
  | .lit _ => 1
  | .nil => 1
  | .ptr d => uptoBulk d + 1
  | .slice elems spare => uptoBulkAll elems + uptoBulkAll spare + 1
  | .agg parts => uptoBulkAll parts + 1
  | .iface _ d => uptoBulk d + 1
  | .map entries => uptoBulkEntries entries + 1
  | .held _ => 1
def uptoBulkAll {H : Type} : List (DataW H) → Nat
  | [] => 0
  | d :: r => uptoBulk d + uptoBulkAll r
def uptoBulkEntries {H : Type} : List (Lit × DataW H) → Nat
  | [] => 0
  | x :: r => uptoBulkEntry x + uptoBulkEntries r
def uptoBulkEntry {H : Type} : Lit × DataW H → Nat
  | (.string bytes, d) => bytes.length + uptoBulk d + 1
  | (_, d) => uptoBulk d + 1
 end
def uptoSmall : (H : Type) → List (DataW H) → Bool := fun _ ds => decide (uptoBulkAll ds ≤ 1048576)
def OpenSpec.upto (s : _root_.Go.ChangeSpec) : _root_.Go.OpenSpec := { _root_.Go.OpenSpec.ofChange s with cond := some uptoSmall }

/-- 'whorllaw8.OmegaCompares', WHERE WHAT IT READS IS OF BULK AT MOST 1048576: true; the input reads as it did. -/
def omegaComparesUptoRow : OpenClaim := { program := "ytffekklhmdoceaa", sum := "9de18bc1edfcc9793c2a62c90239d6e8e39c0b9d9a5f24465413ce8ad8046812", func := "whorl/whorllaw8.OmegaCompares", spec := "omegaCompares", apart := false, narrowed := true }
def OmegaComparesUptoSaid : Prop := omegaComparesUptoRow.holds Try.pinned (OpenSpec.upto omegaComparesSpec)

/-- 'whorllaw8.OmegaSame', WHERE WHAT IT READS IS OF BULK AT MOST 1048576: true; the input reads as it did. -/
def omegaSameUptoRow : OpenClaim := { program := "ytffekklhmdoceaa", sum := "9de18bc1edfcc9793c2a62c90239d6e8e39c0b9d9a5f24465413ce8ad8046812", func := "whorl/whorllaw8.OmegaSame", spec := "omegaSame", apart := false, narrowed := true }
def OmegaSameUptoSaid : Prop := omegaSameUptoRow.holds Try.pinned (OpenSpec.upto omegaSameSpec)

/-- 'whorllaw8.OmegaLong', WHERE WHAT IT READS IS OF BULK AT MOST 1048576: true; the input reads as it did. -/
def omegaLongUptoRow : OpenClaim := { program := "ytffekklhmdoceaa", sum := "9de18bc1edfcc9793c2a62c90239d6e8e39c0b9d9a5f24465413ce8ad8046812", func := "whorl/whorllaw8.OmegaLong", spec := "omegaLong", apart := false, narrowed := true }
def OmegaLongUptoSaid : Prop := omegaLongUptoRow.holds Try.pinned (OpenSpec.upto omegaLongSpec)

/-- 'whorllaw8.OmegaOrder', WHERE WHAT IT READS IS OF BULK AT MOST 1048576: true; the input reads as it did. -/
def omegaOrderUptoRow : OpenClaim := { program := "ytffekklhmdoceaa", sum := "9de18bc1edfcc9793c2a62c90239d6e8e39c0b9d9a5f24465413ce8ad8046812", func := "whorl/whorllaw8.OmegaOrder", spec := "omegaOrder", apart := false, narrowed := true }
def OmegaOrderUptoSaid : Prop := omegaOrderUptoRow.holds Try.pinned (OpenSpec.upto omegaOrderSpec)

/-- 'whorllaw2.CrcSums', WHERE WHAT IT READS IS OF BULK AT MOST 1048576: true; the input reads as it did. -/
def crcSumsUptoRow : OpenClaim := { program := "ytffekklhmdoceaa", sum := "9de18bc1edfcc9793c2a62c90239d6e8e39c0b9d9a5f24465413ce8ad8046812", func := "whorl/whorllaw2.CrcSums", spec := "crcSums", inPlace := ["sync/atomic.AddInt32", "sync/atomic.LoadUint32", "(*internal/sync.Mutex).Lock", "internal/race.Disable", "sync/atomic.CompareAndSwapInt32", "internal/race.Enable", "internal/race.Acquire", "(*internal/sync.Mutex).lockSlow", "internal/sync.runtime_canSpin", "internal/sync.runtime_doSpin", "internal/sync.throw", "internal/sync.runtime_nanotime", "internal/sync.runtime_SemacquireMutex", "(*internal/sync.Mutex).Unlock", "internal/race.ReleaseMerge", "(*internal/sync.Mutex).unlockSlow", "internal/sync.fatal", "internal/sync.runtime_Semrelease", "sync/atomic.StoreUint32", "sync/atomic.LoadInt32"], unfollowed := true, recurses := true, apart := false, narrowed := true }
def CrcSumsUptoSaid : Prop := crcSumsUptoRow.holds Try.pinned (OpenSpec.upto crcSumsSpec)

/-- 'whorllaw2.CrcTurned', WHERE WHAT IT READS IS OF BULK AT MOST 1048576: true; the input reads as it did. -/
def crcTurnedUptoRow : OpenClaim := { program := "ytffekklhmdoceaa", sum := "9de18bc1edfcc9793c2a62c90239d6e8e39c0b9d9a5f24465413ce8ad8046812", func := "whorl/whorllaw2.CrcTurned", spec := "crcTurned", inPlace := ["sync/atomic.AddInt32", "sync/atomic.LoadUint32", "(*internal/sync.Mutex).Lock", "internal/race.Disable", "sync/atomic.CompareAndSwapInt32", "internal/race.Enable", "internal/race.Acquire", "(*internal/sync.Mutex).lockSlow", "internal/sync.runtime_canSpin", "internal/sync.runtime_doSpin", "internal/sync.throw", "internal/sync.runtime_nanotime", "internal/sync.runtime_SemacquireMutex", "(*internal/sync.Mutex).Unlock", "internal/race.ReleaseMerge", "(*internal/sync.Mutex).unlockSlow", "internal/sync.fatal", "internal/sync.runtime_Semrelease", "sync/atomic.StoreUint32", "sync/atomic.LoadInt32"], unfollowed := true, recurses := true, apart := false, narrowed := true }
def CrcTurnedUptoSaid : Prop := crcTurnedUptoRow.holds Try.pinned (OpenSpec.upto crcTurnedSpec)

/-- 'whorllaw2.CrcNext', WHERE WHAT IT READS IS OF BULK AT MOST 1048576: true; the input reads as it did. -/
def crcNextUptoRow : OpenClaim := { program := "ytffekklhmdoceaa", sum := "9de18bc1edfcc9793c2a62c90239d6e8e39c0b9d9a5f24465413ce8ad8046812", func := "whorl/whorllaw2.CrcNext", spec := "crcNext", inPlace := ["sync/atomic.AddInt32", "sync/atomic.LoadUint32", "(*internal/sync.Mutex).Lock", "internal/race.Disable", "sync/atomic.CompareAndSwapInt32", "internal/race.Enable", "internal/race.Acquire", "(*internal/sync.Mutex).lockSlow", "internal/sync.runtime_canSpin", "internal/sync.runtime_doSpin", "internal/sync.throw", "internal/sync.runtime_nanotime", "internal/sync.runtime_SemacquireMutex", "(*internal/sync.Mutex).Unlock", "internal/race.ReleaseMerge", "(*internal/sync.Mutex).unlockSlow", "internal/sync.fatal", "internal/sync.runtime_Semrelease", "sync/atomic.StoreUint32", "sync/atomic.LoadInt32"], unfollowed := true, recurses := true, apart := false, narrowed := true }
def CrcNextUptoSaid : Prop := crcNextUptoRow.holds Try.pinned (OpenSpec.upto crcNextSpec)

/-- 'whorllaw2.CrcTable', WHERE WHAT IT READS IS OF BULK AT MOST 1048576: true; the input reads as it did. -/
def crcTableUptoRow : OpenClaim := { program := "ytffekklhmdoceaa", sum := "9de18bc1edfcc9793c2a62c90239d6e8e39c0b9d9a5f24465413ce8ad8046812", func := "whorl/whorllaw2.CrcTable", spec := "crcTable", inPlace := ["sync/atomic.AddInt32", "sync/atomic.LoadUint32", "(*internal/sync.Mutex).Lock", "internal/race.Disable", "sync/atomic.CompareAndSwapInt32", "internal/race.Enable", "internal/race.Acquire", "(*internal/sync.Mutex).lockSlow", "internal/sync.runtime_canSpin", "internal/sync.runtime_doSpin", "internal/sync.throw", "internal/sync.runtime_nanotime", "internal/sync.runtime_SemacquireMutex", "(*internal/sync.Mutex).Unlock", "internal/race.ReleaseMerge", "(*internal/sync.Mutex).unlockSlow", "internal/sync.fatal", "internal/sync.runtime_Semrelease", "sync/atomic.StoreUint32", "sync/atomic.LoadInt32"], unfollowed := true, recurses := true, apart := false, narrowed := true }
def CrcTableUptoSaid : Prop := crcTableUptoRow.holds Try.pinned (OpenSpec.upto crcTableSpec)

/-- 'whorllaw2.CrcRows', WHERE WHAT IT READS IS OF BULK AT MOST 1048576: true; the input reads as it did. -/
def crcRowsUptoRow : OpenClaim := { program := "ytffekklhmdoceaa", sum := "9de18bc1edfcc9793c2a62c90239d6e8e39c0b9d9a5f24465413ce8ad8046812", func := "whorl/whorllaw2.CrcRows", spec := "crcRows", inPlace := ["sync/atomic.AddInt32", "sync/atomic.LoadUint32", "(*internal/sync.Mutex).Lock", "internal/race.Disable", "sync/atomic.CompareAndSwapInt32", "internal/race.Enable", "internal/race.Acquire", "(*internal/sync.Mutex).lockSlow", "internal/sync.runtime_canSpin", "internal/sync.runtime_doSpin", "internal/sync.throw", "internal/sync.runtime_nanotime", "internal/sync.runtime_SemacquireMutex", "(*internal/sync.Mutex).Unlock", "internal/race.ReleaseMerge", "(*internal/sync.Mutex).unlockSlow", "internal/sync.fatal", "internal/sync.runtime_Semrelease", "sync/atomic.StoreUint32", "sync/atomic.LoadInt32"], unfollowed := true, recurses := true, apart := false, narrowed := true }
def CrcRowsUptoSaid : Prop := crcRowsUptoRow.holds Try.pinned (OpenSpec.upto crcRowsSpec)

/-- 'whorllaw8.OmegaTurns', WHERE WHAT IT READS IS OF BULK AT MOST 1048576: true; the input reads as it did. -/
def omegaTurnsUptoRow : OpenClaim := { program := "ytffekklhmdoceaa", sum := "9de18bc1edfcc9793c2a62c90239d6e8e39c0b9d9a5f24465413ce8ad8046812", func := "whorl/whorllaw8.OmegaTurns", spec := "omegaTurns", unfollowed := true, recurses := true, apart := false, narrowed := true }
def OmegaTurnsUptoSaid : Prop := omegaTurnsUptoRow.holds Try.pinned (OpenSpec.upto omegaTurnsSpec)

end Rows
end Go.Proofs.Ytffekklhmdoceaa
