/-
  No cell of these rows narrows 'for every input' (looked for: loops, veiled, ifaces, maps, wideKeys, modest, calm, conditions, laid).
  DERIVED. THE GIVEN ROWS OF THIS SEAT. 13 by the template 'for every input the law returns true; each argument reads behind the call as it read before'; 0 by the template 'total and deterministic' (their statements: YtdbebmmhdefgdaaGreatTotals.lean).
  GIVEN WITH THE SEED: the statements are not yours to turn. If you find one false, say at which input.
  Laid BY PROGRAM, IN A SANDBOX (cutbox-rows.mjs): the forced cells as the released guide's own fill.sh prints them over the translation 9725415a7ba31f62… (all of the seat's roots in one cut). By AI agents, Wed Nov 11 2026. No macro, syntax, notation, axiom, sorry.
-/
import Derived.Test.YtdbebmmhdefgdaaGreatChecked
import GoSem.Claim
import GoSem.ClaimJoined
import GoSem.ClaimMapViews
import Derived.JoinedTies
import Derived.KernelRfl
namespace Go.Proofs.YtdbebmmhdefgdaaGreat
/- THE CELL 'sum', in the pinned program and in every row, IS THE sha256 OF THE DUMP (.gsa) THAT YtdbebmmhdefgdaaGreatProg.lean LOADS. Nothing in Lean hashes anything: it is a label: what it is worth is what the hold of that sum in a sandbox is worth. -/
noncomputable def Tryz.pinned : Pinned := { name := "ytdbebmmhdefgdaagreat", sum := "9725415a7ba31f62cf1da944ba29c077fc9dc25f5ea290b2ea2adb6b0f794ee6", checked := Tryz.checked }
namespace Rows
def none {H : Type} : Left H := { results := [], args := [] }

/-- 'whorltop.TopBox': WHATEVER THE INPUT: true; the input reads as it did. -/
def topBoxSpec : ChangeSpec := { name := "topBox", fn := fun _ => fun
  | [d1, d2] => { results := [.lit (.bool true)], args := [d1, d2] }
  | _ => none }
def topBoxRow : OpenClaim := { program := "ytdbebmmhdefgdaagreat", sum := "9725415a7ba31f62cf1da944ba29c077fc9dc25f5ea290b2ea2adb6b0f794ee6", func := "whorl/whorltop.TopBox", spec := "topBox", inPlace := ["internal/bytealg.Compare", "internal/bytealg.MakeNoZero", "sync/atomic.AddInt64", "internal/bytealg.IndexByte", "sync/atomic.AddInt32", "sync/atomic.LoadUint32", "(*internal/sync.Mutex).Lock", "internal/race.Disable", "sync/atomic.CompareAndSwapInt32", "internal/race.Enable", "internal/race.Acquire", "(*internal/sync.Mutex).lockSlow", "internal/sync.runtime_canSpin", "internal/sync.runtime_doSpin", "internal/sync.throw", "internal/sync.runtime_nanotime", "internal/sync.runtime_SemacquireMutex", "(*internal/sync.Mutex).Unlock", "internal/race.ReleaseMerge", "(*internal/sync.Mutex).unlockSlow", "internal/sync.fatal", "internal/sync.runtime_Semrelease", "sync/atomic.StoreUint32"], unfollowed := true, recurses := true, apart := false }
def TopBoxSaid : Prop := topBoxRow.holds Tryz.pinned (OpenSpec.ofChange topBoxSpec)

/-- ITS FALSE NEIGHBOUR: 'it returns false'. Refute it at one input. -/
def topBoxWrong : ChangeSpec := { name := "topBox", fn := fun _ => fun
  | [d1, d2] => { results := [.lit (.bool false)], args := [d1, d2] }
  | _ => none }
def TopBoxWrongFalsely : Prop := topBoxRow.holds Tryz.pinned (OpenSpec.ofChange topBoxWrong)

/-- 'whorllaw30.BoxEncodes': WHATEVER THE INPUT: true; the input reads as it did. -/
def boxEncodesSpec : ChangeSpec := { name := "boxEncodes", fn := fun _ => fun
  | [d1, d2] => { results := [.lit (.bool true)], args := [d1, d2] }
  | _ => none }
def boxEncodesRow : OpenClaim := { program := "ytdbebmmhdefgdaagreat", sum := "9725415a7ba31f62cf1da944ba29c077fc9dc25f5ea290b2ea2adb6b0f794ee6", func := "whorl/whorllaw30.BoxEncodes", spec := "boxEncodes", inPlace := ["internal/bytealg.Compare", "internal/bytealg.MakeNoZero", "sync/atomic.AddInt64", "internal/bytealg.IndexByte", "sync/atomic.AddInt32", "sync/atomic.LoadUint32", "(*internal/sync.Mutex).Lock", "internal/race.Disable", "sync/atomic.CompareAndSwapInt32", "internal/race.Enable", "internal/race.Acquire", "(*internal/sync.Mutex).lockSlow", "internal/sync.runtime_canSpin", "internal/sync.runtime_doSpin", "internal/sync.throw", "internal/sync.runtime_nanotime", "internal/sync.runtime_SemacquireMutex", "(*internal/sync.Mutex).Unlock", "internal/race.ReleaseMerge", "(*internal/sync.Mutex).unlockSlow", "internal/sync.fatal", "internal/sync.runtime_Semrelease", "sync/atomic.StoreUint32"], unfollowed := true, recurses := true, apart := false }
def BoxEncodesSaid : Prop := boxEncodesRow.holds Tryz.pinned (OpenSpec.ofChange boxEncodesSpec)

/-- ITS FALSE NEIGHBOUR: 'it returns false'. Refute it at one input. -/
def boxEncodesWrong : ChangeSpec := { name := "boxEncodes", fn := fun _ => fun
  | [d1, d2] => { results := [.lit (.bool false)], args := [d1, d2] }
  | _ => none }
def BoxEncodesWrongFalsely : Prop := boxEncodesRow.holds Tryz.pinned (OpenSpec.ofChange boxEncodesWrong)

/-- 'whorllaw30.BoxBack': WHATEVER THE INPUT: true; the input reads as it did. -/
def boxBackSpec : ChangeSpec := { name := "boxBack", fn := fun _ => fun
  | [d1, d2] => { results := [.lit (.bool true)], args := [d1, d2] }
  | _ => none }
def boxBackRow : OpenClaim := { program := "ytdbebmmhdefgdaagreat", sum := "9725415a7ba31f62cf1da944ba29c077fc9dc25f5ea290b2ea2adb6b0f794ee6", func := "whorl/whorllaw30.BoxBack", spec := "boxBack", inPlace := ["internal/bytealg.Compare", "internal/bytealg.MakeNoZero", "sync/atomic.AddInt64", "internal/bytealg.IndexByte", "sync/atomic.AddInt32", "sync/atomic.LoadUint32", "(*internal/sync.Mutex).Lock", "internal/race.Disable", "sync/atomic.CompareAndSwapInt32", "internal/race.Enable", "internal/race.Acquire", "(*internal/sync.Mutex).lockSlow", "internal/sync.runtime_canSpin", "internal/sync.runtime_doSpin", "internal/sync.throw", "internal/sync.runtime_nanotime", "internal/sync.runtime_SemacquireMutex", "(*internal/sync.Mutex).Unlock", "internal/race.ReleaseMerge", "(*internal/sync.Mutex).unlockSlow", "internal/sync.fatal", "internal/sync.runtime_Semrelease", "sync/atomic.StoreUint32"], unfollowed := true, recurses := true, apart := false }
def BoxBackSaid : Prop := boxBackRow.holds Tryz.pinned (OpenSpec.ofChange boxBackSpec)

/-- ITS FALSE NEIGHBOUR: 'it returns false'. Refute it at one input. -/
def boxBackWrong : ChangeSpec := { name := "boxBack", fn := fun _ => fun
  | [d1, d2] => { results := [.lit (.bool false)], args := [d1, d2] }
  | _ => none }
def BoxBackWrongFalsely : Prop := boxBackRow.holds Tryz.pinned (OpenSpec.ofChange boxBackWrong)

/-- 'whorllaw30.BoxTurned': WHATEVER THE INPUT: true; the input reads as it did. -/
def boxTurnedSpec : ChangeSpec := { name := "boxTurned", fn := fun _ => fun
  | [d1, d2, d3, d4, d5] => { results := [.lit (.bool true)], args := [d1, d2, d3, d4, d5] }
  | _ => none }
def boxTurnedRow : OpenClaim := { program := "ytdbebmmhdefgdaagreat", sum := "9725415a7ba31f62cf1da944ba29c077fc9dc25f5ea290b2ea2adb6b0f794ee6", func := "whorl/whorllaw30.BoxTurned", spec := "boxTurned", inPlace := ["internal/bytealg.IndexByte", "internal/bytealg.Compare", "internal/bytealg.MakeNoZero", "sync/atomic.AddInt32", "sync/atomic.LoadUint32", "(*internal/sync.Mutex).Lock", "internal/race.Disable", "sync/atomic.CompareAndSwapInt32", "internal/race.Enable", "internal/race.Acquire", "(*internal/sync.Mutex).lockSlow", "internal/sync.runtime_canSpin", "internal/sync.runtime_doSpin", "internal/sync.throw", "internal/sync.runtime_nanotime", "internal/sync.runtime_SemacquireMutex", "(*internal/sync.Mutex).Unlock", "internal/race.ReleaseMerge", "(*internal/sync.Mutex).unlockSlow", "internal/sync.fatal", "internal/sync.runtime_Semrelease", "sync/atomic.StoreUint32", "sync/atomic.AddInt64"], unfollowed := true, recurses := true, apart := false }
def BoxTurnedSaid : Prop := boxTurnedRow.holds Tryz.pinned (OpenSpec.ofChange boxTurnedSpec)

/-- ITS FALSE NEIGHBOUR: 'it returns false'. Refute it at one input. -/
def boxTurnedWrong : ChangeSpec := { name := "boxTurned", fn := fun _ => fun
  | [d1, d2, d3, d4, d5] => { results := [.lit (.bool false)], args := [d1, d2, d3, d4, d5] }
  | _ => none }
def BoxTurnedWrongFalsely : Prop := boxTurnedRow.holds Tryz.pinned (OpenSpec.ofChange boxTurnedWrong)

/-- 'whorllaw30.BoxLimit': WHATEVER THE INPUT: true; the input reads as it did. -/
def boxLimitSpec : ChangeSpec := { name := "boxLimit", fn := fun _ => fun
  | [d1, d2, d3] => { results := [.lit (.bool true)], args := [d1, d2, d3] }
  | _ => none }
def boxLimitRow : OpenClaim := { program := "ytdbebmmhdefgdaagreat", sum := "9725415a7ba31f62cf1da944ba29c077fc9dc25f5ea290b2ea2adb6b0f794ee6", func := "whorl/whorllaw30.BoxLimit", spec := "boxLimit", inPlace := ["internal/bytealg.Compare", "internal/bytealg.MakeNoZero", "sync/atomic.AddInt64", "internal/bytealg.IndexByte", "sync/atomic.AddInt32", "sync/atomic.LoadUint32", "(*internal/sync.Mutex).Lock", "internal/race.Disable", "sync/atomic.CompareAndSwapInt32", "internal/race.Enable", "internal/race.Acquire", "(*internal/sync.Mutex).lockSlow", "internal/sync.runtime_canSpin", "internal/sync.runtime_doSpin", "internal/sync.throw", "internal/sync.runtime_nanotime", "internal/sync.runtime_SemacquireMutex", "(*internal/sync.Mutex).Unlock", "internal/race.ReleaseMerge", "(*internal/sync.Mutex).unlockSlow", "internal/sync.fatal", "internal/sync.runtime_Semrelease", "sync/atomic.StoreUint32"], unfollowed := true, recurses := true, apart := false }
def BoxLimitSaid : Prop := boxLimitRow.holds Tryz.pinned (OpenSpec.ofChange boxLimitSpec)

/-- ITS FALSE NEIGHBOUR: 'it returns false'. Refute it at one input. -/
def boxLimitWrong : ChangeSpec := { name := "boxLimit", fn := fun _ => fun
  | [d1, d2, d3] => { results := [.lit (.bool false)], args := [d1, d2, d3] }
  | _ => none }
def BoxLimitWrongFalsely : Prop := boxLimitRow.holds Tryz.pinned (OpenSpec.ofChange boxLimitWrong)

/-- 'whorllaw30.BoxSorters': WHATEVER THE INPUT: true; the input reads as it did. -/
def boxSortersSpec : ChangeSpec := { name := "boxSorters", fn := fun _ => fun
  | [d1, d2, d3, d4] => { results := [.lit (.bool true)], args := [d1, d2, d3, d4] }
  | _ => none }
def boxSortersRow : OpenClaim := { program := "ytdbebmmhdefgdaagreat", sum := "9725415a7ba31f62cf1da944ba29c077fc9dc25f5ea290b2ea2adb6b0f794ee6", func := "whorl/whorllaw30.BoxSorters", spec := "boxSorters", inPlace := ["internal/bytealg.Compare", "internal/bytealg.MakeNoZero", "sync/atomic.AddInt64", "internal/bytealg.IndexByte", "sync/atomic.AddInt32", "sync/atomic.LoadUint32", "(*internal/sync.Mutex).Lock", "internal/race.Disable", "sync/atomic.CompareAndSwapInt32", "internal/race.Enable", "internal/race.Acquire", "(*internal/sync.Mutex).lockSlow", "internal/sync.runtime_canSpin", "internal/sync.runtime_doSpin", "internal/sync.throw", "internal/sync.runtime_nanotime", "internal/sync.runtime_SemacquireMutex", "(*internal/sync.Mutex).Unlock", "internal/race.ReleaseMerge", "(*internal/sync.Mutex).unlockSlow", "internal/sync.fatal", "internal/sync.runtime_Semrelease", "sync/atomic.StoreUint32"], unfollowed := true, recurses := true, apart := false }
def BoxSortersSaid : Prop := boxSortersRow.holds Tryz.pinned (OpenSpec.ofChange boxSortersSpec)

/-- ITS FALSE NEIGHBOUR: 'it returns false'. Refute it at one input. -/
def boxSortersWrong : ChangeSpec := { name := "boxSorters", fn := fun _ => fun
  | [d1, d2, d3, d4] => { results := [.lit (.bool false)], args := [d1, d2, d3, d4] }
  | _ => none }
def BoxSortersWrongFalsely : Prop := boxSortersRow.holds Tryz.pinned (OpenSpec.ofChange boxSortersWrong)

/-- 'whorllaw30.BoxBlocks': WHATEVER THE INPUT: true; the input reads as it did. -/
def boxBlocksSpec : ChangeSpec := { name := "boxBlocks", fn := fun _ => fun
  | [d1, d2, d3, d4] => { results := [.lit (.bool true)], args := [d1, d2, d3, d4] }
  | _ => none }
def boxBlocksRow : OpenClaim := { program := "ytdbebmmhdefgdaagreat", sum := "9725415a7ba31f62cf1da944ba29c077fc9dc25f5ea290b2ea2adb6b0f794ee6", func := "whorl/whorllaw30.BoxBlocks", spec := "boxBlocks", inPlace := ["internal/bytealg.Compare", "internal/bytealg.MakeNoZero", "sync/atomic.AddInt64", "internal/bytealg.IndexByte", "sync/atomic.AddInt32", "sync/atomic.LoadUint32", "(*internal/sync.Mutex).Lock", "internal/race.Disable", "sync/atomic.CompareAndSwapInt32", "internal/race.Enable", "internal/race.Acquire", "(*internal/sync.Mutex).lockSlow", "internal/sync.runtime_canSpin", "internal/sync.runtime_doSpin", "internal/sync.throw", "internal/sync.runtime_nanotime", "internal/sync.runtime_SemacquireMutex", "(*internal/sync.Mutex).Unlock", "internal/race.ReleaseMerge", "(*internal/sync.Mutex).unlockSlow", "internal/sync.fatal", "internal/sync.runtime_Semrelease", "sync/atomic.StoreUint32"], unfollowed := true, recurses := true, apart := false }
def BoxBlocksSaid : Prop := boxBlocksRow.holds Tryz.pinned (OpenSpec.ofChange boxBlocksSpec)

/-- ITS FALSE NEIGHBOUR: 'it returns false'. Refute it at one input. -/
def boxBlocksWrong : ChangeSpec := { name := "boxBlocks", fn := fun _ => fun
  | [d1, d2, d3, d4] => { results := [.lit (.bool false)], args := [d1, d2, d3, d4] }
  | _ => none }
def BoxBlocksWrongFalsely : Prop := boxBlocksRow.holds Tryz.pinned (OpenSpec.ofChange boxBlocksWrong)

/-- 'whorllaw31.PlayDoes': WHATEVER THE INPUT: true; the input reads as it did. -/
def playDoesSpec : ChangeSpec := { name := "playDoes", fn := fun _ => fun
  | [d] => { results := [.lit (.bool true)], args := [d] }
  | _ => none }
def playDoesRow : OpenClaim := { program := "ytdbebmmhdefgdaagreat", sum := "9725415a7ba31f62cf1da944ba29c077fc9dc25f5ea290b2ea2adb6b0f794ee6", func := "whorl/whorllaw31.PlayDoes", spec := "playDoes", inPlace := ["internal/bytealg.IndexByte", "internal/bytealg.Compare", "internal/bytealg.MakeNoZero", "sync/atomic.AddInt64", "sync/atomic.AddInt32", "sync/atomic.LoadUint32", "(*internal/sync.Mutex).Lock", "internal/race.Disable", "sync/atomic.CompareAndSwapInt32", "internal/race.Enable", "internal/race.Acquire", "(*internal/sync.Mutex).lockSlow", "internal/sync.runtime_canSpin", "internal/sync.runtime_doSpin", "internal/sync.throw", "internal/sync.runtime_nanotime", "internal/sync.runtime_SemacquireMutex", "(*internal/sync.Mutex).Unlock", "internal/race.ReleaseMerge", "(*internal/sync.Mutex).unlockSlow", "internal/sync.fatal", "internal/sync.runtime_Semrelease", "sync/atomic.StoreUint32"], unfollowed := true, recurses := true, apart := false }
def PlayDoesSaid : Prop := playDoesRow.holds Tryz.pinned (OpenSpec.ofChange playDoesSpec)

/-- ITS FALSE NEIGHBOUR: 'it returns false'. Refute it at one input. -/
def playDoesWrong : ChangeSpec := { name := "playDoes", fn := fun _ => fun
  | [d] => { results := [.lit (.bool false)], args := [d] }
  | _ => none }
def PlayDoesWrongFalsely : Prop := playDoesRow.holds Tryz.pinned (OpenSpec.ofChange playDoesWrong)

/-- 'whorllaw31.PlayUndoes': WHATEVER THE INPUT: true; the input reads as it did. -/
def playUndoesSpec : ChangeSpec := { name := "playUndoes", fn := fun _ => fun
  | [d1, d2] => { results := [.lit (.bool true)], args := [d1, d2] }
  | _ => none }
def playUndoesRow : OpenClaim := { program := "ytdbebmmhdefgdaagreat", sum := "9725415a7ba31f62cf1da944ba29c077fc9dc25f5ea290b2ea2adb6b0f794ee6", func := "whorl/whorllaw31.PlayUndoes", spec := "playUndoes", inPlace := ["internal/bytealg.IndexByte", "internal/bytealg.Compare", "internal/bytealg.MakeNoZero", "sync/atomic.AddInt64", "sync/atomic.AddInt32", "sync/atomic.LoadUint32", "(*internal/sync.Mutex).Lock", "internal/race.Disable", "sync/atomic.CompareAndSwapInt32", "internal/race.Enable", "internal/race.Acquire", "(*internal/sync.Mutex).lockSlow", "internal/sync.runtime_canSpin", "internal/sync.runtime_doSpin", "internal/sync.throw", "internal/sync.runtime_nanotime", "internal/sync.runtime_SemacquireMutex", "(*internal/sync.Mutex).Unlock", "internal/race.ReleaseMerge", "(*internal/sync.Mutex).unlockSlow", "internal/sync.fatal", "internal/sync.runtime_Semrelease", "sync/atomic.StoreUint32"], unfollowed := true, recurses := true, apart := false }
def PlayUndoesSaid : Prop := playUndoesRow.holds Tryz.pinned (OpenSpec.ofChange playUndoesSpec)

/-- ITS FALSE NEIGHBOUR: 'it returns false'. Refute it at one input. -/
def playUndoesWrong : ChangeSpec := { name := "playUndoes", fn := fun _ => fun
  | [d1, d2] => { results := [.lit (.bool false)], args := [d1, d2] }
  | _ => none }
def PlayUndoesWrongFalsely : Prop := playUndoesRow.holds Tryz.pinned (OpenSpec.ofChange playUndoesWrong)

/-- 'whorllaw31.PlayErrs': WHATEVER THE INPUT: true; the input reads as it did. -/
def playErrsSpec : ChangeSpec := { name := "playErrs", fn := fun _ => fun
  | [d1, d2] => { results := [.lit (.bool true)], args := [d1, d2] }
  | _ => none }
def playErrsRow : OpenClaim := { program := "ytdbebmmhdefgdaagreat", sum := "9725415a7ba31f62cf1da944ba29c077fc9dc25f5ea290b2ea2adb6b0f794ee6", func := "whorl/whorllaw31.PlayErrs", spec := "playErrs", inPlace := ["internal/bytealg.IndexByte", "internal/bytealg.Compare", "internal/bytealg.MakeNoZero", "sync/atomic.AddInt64", "sync/atomic.AddInt32", "sync/atomic.LoadUint32", "(*internal/sync.Mutex).Lock", "internal/race.Disable", "sync/atomic.CompareAndSwapInt32", "internal/race.Enable", "internal/race.Acquire", "(*internal/sync.Mutex).lockSlow", "internal/sync.runtime_canSpin", "internal/sync.runtime_doSpin", "internal/sync.throw", "internal/sync.runtime_nanotime", "internal/sync.runtime_SemacquireMutex", "(*internal/sync.Mutex).Unlock", "internal/race.ReleaseMerge", "(*internal/sync.Mutex).unlockSlow", "internal/sync.fatal", "internal/sync.runtime_Semrelease", "sync/atomic.StoreUint32"], unfollowed := true, recurses := true, apart := false }
def PlayErrsSaid : Prop := playErrsRow.holds Tryz.pinned (OpenSpec.ofChange playErrsSpec)

/-- ITS FALSE NEIGHBOUR: 'it returns false'. Refute it at one input. -/
def playErrsWrong : ChangeSpec := { name := "playErrs", fn := fun _ => fun
  | [d1, d2] => { results := [.lit (.bool false)], args := [d1, d2] }
  | _ => none }
def PlayErrsWrongFalsely : Prop := playErrsRow.holds Tryz.pinned (OpenSpec.ofChange playErrsWrong)

/-- 'whorllaw31.PlayOwn': WHATEVER THE INPUT: true; the input reads as it did. -/
def playOwnSpec : ChangeSpec := { name := "playOwn", fn := fun _ => fun
  | [d] => { results := [.lit (.bool true)], args := [d] }
  | _ => none }
def playOwnRow : OpenClaim := { program := "ytdbebmmhdefgdaagreat", sum := "9725415a7ba31f62cf1da944ba29c077fc9dc25f5ea290b2ea2adb6b0f794ee6", func := "whorl/whorllaw31.PlayOwn", spec := "playOwn", inPlace := ["internal/bytealg.IndexByte", "internal/bytealg.Compare", "internal/bytealg.MakeNoZero", "sync/atomic.AddInt64", "sync/atomic.AddInt32", "sync/atomic.LoadUint32", "(*internal/sync.Mutex).Lock", "internal/race.Disable", "sync/atomic.CompareAndSwapInt32", "internal/race.Enable", "internal/race.Acquire", "(*internal/sync.Mutex).lockSlow", "internal/sync.runtime_canSpin", "internal/sync.runtime_doSpin", "internal/sync.throw", "internal/sync.runtime_nanotime", "internal/sync.runtime_SemacquireMutex", "(*internal/sync.Mutex).Unlock", "internal/race.ReleaseMerge", "(*internal/sync.Mutex).unlockSlow", "internal/sync.fatal", "internal/sync.runtime_Semrelease", "sync/atomic.StoreUint32"], unfollowed := true, recurses := true, apart := false }
def PlayOwnSaid : Prop := playOwnRow.holds Tryz.pinned (OpenSpec.ofChange playOwnSpec)

/-- ITS FALSE NEIGHBOUR: 'it returns false'. Refute it at one input. -/
def playOwnWrong : ChangeSpec := { name := "playOwn", fn := fun _ => fun
  | [d] => { results := [.lit (.bool false)], args := [d] }
  | _ => none }
def PlayOwnWrongFalsely : Prop := playOwnRow.holds Tryz.pinned (OpenSpec.ofChange playOwnWrong)

/-- 'whorllaw31.PlayTop': WHATEVER THE INPUT: true; the input reads as it did. -/
def playTopSpec : ChangeSpec := { name := "playTop", fn := fun _ => fun
  | [d1, d2, d3] => { results := [.lit (.bool true)], args := [d1, d2, d3] }
  | _ => none }
def playTopRow : OpenClaim := { program := "ytdbebmmhdefgdaagreat", sum := "9725415a7ba31f62cf1da944ba29c077fc9dc25f5ea290b2ea2adb6b0f794ee6", func := "whorl/whorllaw31.PlayTop", spec := "playTop", inPlace := ["internal/bytealg.IndexByte", "internal/bytealg.Compare", "internal/bytealg.MakeNoZero", "sync/atomic.AddInt64", "sync/atomic.AddInt32", "sync/atomic.LoadUint32", "(*internal/sync.Mutex).Lock", "internal/race.Disable", "sync/atomic.CompareAndSwapInt32", "internal/race.Enable", "internal/race.Acquire", "(*internal/sync.Mutex).lockSlow", "internal/sync.runtime_canSpin", "internal/sync.runtime_doSpin", "internal/sync.throw", "internal/sync.runtime_nanotime", "internal/sync.runtime_SemacquireMutex", "(*internal/sync.Mutex).Unlock", "internal/race.ReleaseMerge", "(*internal/sync.Mutex).unlockSlow", "internal/sync.fatal", "internal/sync.runtime_Semrelease", "sync/atomic.StoreUint32"], unfollowed := true, recurses := true, apart := false }
def PlayTopSaid : Prop := playTopRow.holds Tryz.pinned (OpenSpec.ofChange playTopSpec)

/-- ITS FALSE NEIGHBOUR: 'it returns false'. Refute it at one input. -/
def playTopWrong : ChangeSpec := { name := "playTop", fn := fun _ => fun
  | [d1, d2, d3] => { results := [.lit (.bool false)], args := [d1, d2, d3] }
  | _ => none }
def PlayTopWrongFalsely : Prop := playTopRow.holds Tryz.pinned (OpenSpec.ofChange playTopWrong)

/-- 'whorltop.TopPlays': WHATEVER THE INPUT: true; the input reads as it did. -/
def topPlaysSpec : ChangeSpec := { name := "topPlays", fn := fun _ => fun
  | [d] => { results := [.lit (.bool true)], args := [d] }
  | _ => none }
def topPlaysRow : OpenClaim := { program := "ytdbebmmhdefgdaagreat", sum := "9725415a7ba31f62cf1da944ba29c077fc9dc25f5ea290b2ea2adb6b0f794ee6", func := "whorl/whorltop.TopPlays", spec := "topPlays", inPlace := ["internal/bytealg.IndexByte", "internal/bytealg.Compare", "internal/bytealg.MakeNoZero", "sync/atomic.AddInt64", "sync/atomic.AddInt32", "sync/atomic.LoadUint32", "(*internal/sync.Mutex).Lock", "internal/race.Disable", "sync/atomic.CompareAndSwapInt32", "internal/race.Enable", "internal/race.Acquire", "(*internal/sync.Mutex).lockSlow", "internal/sync.runtime_canSpin", "internal/sync.runtime_doSpin", "internal/sync.throw", "internal/sync.runtime_nanotime", "internal/sync.runtime_SemacquireMutex", "(*internal/sync.Mutex).Unlock", "internal/race.ReleaseMerge", "(*internal/sync.Mutex).unlockSlow", "internal/sync.fatal", "internal/sync.runtime_Semrelease", "sync/atomic.StoreUint32"], unfollowed := true, recurses := true, apart := false }
def TopPlaysSaid : Prop := topPlaysRow.holds Tryz.pinned (OpenSpec.ofChange topPlaysSpec)

/-- ITS FALSE NEIGHBOUR: 'it returns false'. Refute it at one input. -/
def topPlaysWrong : ChangeSpec := { name := "topPlays", fn := fun _ => fun
  | [d] => { results := [.lit (.bool false)], args := [d] }
  | _ => none }
def TopPlaysWrongFalsely : Prop := topPlaysRow.holds Tryz.pinned (OpenSpec.ofChange topPlaysWrong)

/- THE SECOND FORM. 'bulk': how many values and letters a reading holds, each counted each time it is reached (what is shared counts as often as it is met; a slice's spare places count too). A statement '..UptoSaid' is the law's where the arguments, and the package variables that the reading takes, are together of bulk at most 1048576: NARROWER than '..Said'. Prove '..Said' where nothing that the law and all that it calls make is longer than what came in: it says more and counts as full. Else prove '..UptoSaid'. A law counts once. -/
mutual
def uptoBulk {H : Type} : DataW H → Nat
  | .lit (.string bytes) => bytes.length + 1
  | .lit _ => 1
  | .nil => 1
  | .ptr d => uptoBulk d + 1
  | .slice elems spare => uptoBulkAll elems + uptoBulkAll spare + 1
  | .agg parts => uptoBulkAll parts + 1
  | .iface _ d => uptoBulk d + 1
  | .map entries => uptoBulkEntries entries + 1
  | .held _ => 1
def uptoBulkAll {H : Type} : List (DataW H) → Nat
  | [] => 0
  | d :: r => uptoBulk d + uptoBulkAll r
def uptoBulkEntries {H : Type} : List (Lit × DataW H) → Nat
  | [] => 0
  | x :: r => uptoBulkEntry x + uptoBulkEntries r
def uptoBulkEntry {H : Type} : Lit × DataW H → Nat
  | (.string bytes, d) => bytes.length + uptoBulk d + 1
  | (_, d) => uptoBulk d + 1
 end
def uptoSmall : (H : Type) → List (DataW H) → Bool := fun _ ds => decide (uptoBulkAll ds ≤ 1048576)
def OpenSpec.upto (s : _root_.Go.ChangeSpec) : _root_.Go.OpenSpec := { _root_.Go.OpenSpec.ofChange s with cond := some uptoSmall }

/-- 'whorltop.TopBox', WHERE WHAT IT READS IS OF BULK AT MOST 1048576: true; the input reads as it did. -/
def topBoxUptoRow : OpenClaim := { program := "ytdbebmmhdefgdaagreat", sum := "9725415a7ba31f62cf1da944ba29c077fc9dc25f5ea290b2ea2adb6b0f794ee6", func := "whorl/whorltop.TopBox", spec := "topBox", inPlace := ["internal/bytealg.Compare", "internal/bytealg.MakeNoZero", "sync/atomic.AddInt64", "internal/bytealg.IndexByte", "sync/atomic.AddInt32", "sync/atomic.LoadUint32", "(*internal/sync.Mutex).Lock", "internal/race.Disable", "sync/atomic.CompareAndSwapInt32", "internal/race.Enable", "internal/race.Acquire", "(*internal/sync.Mutex).lockSlow", "internal/sync.runtime_canSpin", "internal/sync.runtime_doSpin", "internal/sync.throw", "internal/sync.runtime_nanotime", "internal/sync.runtime_SemacquireMutex", "(*internal/sync.Mutex).Unlock", "internal/race.ReleaseMerge", "(*internal/sync.Mutex).unlockSlow", "internal/sync.fatal", "internal/sync.runtime_Semrelease", "sync/atomic.StoreUint32"], unfollowed := true, recurses := true, apart := false, narrowed := true }
def TopBoxUptoSaid : Prop := topBoxUptoRow.holds Tryz.pinned (OpenSpec.upto topBoxSpec)

/-- 'whorllaw30.BoxEncodes', WHERE WHAT IT READS IS OF BULK AT MOST 1048576: true; the input reads as it did. -/
def boxEncodesUptoRow : OpenClaim := { program := "ytdbebmmhdefgdaagreat", sum := "9725415a7ba31f62cf1da944ba29c077fc9dc25f5ea290b2ea2adb6b0f794ee6", func := "whorl/whorllaw30.BoxEncodes", spec := "boxEncodes", inPlace := ["internal/bytealg.Compare", "internal/bytealg.MakeNoZero", "sync/atomic.AddInt64", "internal/bytealg.IndexByte", "sync/atomic.AddInt32", "sync/atomic.LoadUint32", "(*internal/sync.Mutex).Lock", "internal/race.Disable", "sync/atomic.CompareAndSwapInt32", "internal/race.Enable", "internal/race.Acquire", "(*internal/sync.Mutex).lockSlow", "internal/sync.runtime_canSpin", "internal/sync.runtime_doSpin", "internal/sync.throw", "internal/sync.runtime_nanotime", "internal/sync.runtime_SemacquireMutex", "(*internal/sync.Mutex).Unlock", "internal/race.ReleaseMerge", "(*internal/sync.Mutex).unlockSlow", "internal/sync.fatal", "internal/sync.runtime_Semrelease", "sync/atomic.StoreUint32"], unfollowed := true, recurses := true, apart := false, narrowed := true }
def BoxEncodesUptoSaid : Prop := boxEncodesUptoRow.holds Tryz.pinned (OpenSpec.upto boxEncodesSpec)

/-- 'whorllaw30.BoxBack', WHERE WHAT IT READS IS OF BULK AT MOST 1048576: true; the input reads as it did. -/
def boxBackUptoRow : OpenClaim := { program := "ytdbebmmhdefgdaagreat", sum := "9725415a7ba31f62cf1da944ba29c077fc9dc25f5ea290b2ea2adb6b0f794ee6", func := "whorl/whorllaw30.BoxBack", spec := "boxBack", inPlace := ["internal/bytealg.Compare", "internal/bytealg.MakeNoZero", "sync/atomic.AddInt64", "internal/bytealg.IndexByte", "sync/atomic.AddInt32", "sync/atomic.LoadUint32", "(*internal/sync.Mutex).Lock", "internal/race.Disable", "sync/atomic.CompareAndSwapInt32", "internal/race.Enable", "internal/race.Acquire", "(*internal/sync.Mutex).lockSlow", "internal/sync.runtime_canSpin", "internal/sync.runtime_doSpin", "internal/sync.throw", "internal/sync.runtime_nanotime", "internal/sync.runtime_SemacquireMutex", "(*internal/sync.Mutex).Unlock", "internal/race.ReleaseMerge", "(*internal/sync.Mutex).unlockSlow", "internal/sync.fatal", "internal/sync.runtime_Semrelease", "sync/atomic.StoreUint32"], unfollowed := true, recurses := true, apart := false, narrowed := true }
def BoxBackUptoSaid : Prop := boxBackUptoRow.holds Tryz.pinned (OpenSpec.upto boxBackSpec)

/-- 'whorllaw30.BoxTurned', WHERE WHAT IT READS IS OF BULK AT MOST 1048576: true; the input reads as it did. -/
def boxTurnedUptoRow : OpenClaim := { program := "ytdbebmmhdefgdaagreat", sum := "9725415a7ba31f62cf1da944ba29c077fc9dc25f5ea290b2ea2adb6b0f794ee6", func := "whorl/whorllaw30.BoxTurned", spec := "boxTurned", inPlace := ["internal/bytealg.IndexByte", "internal/bytealg.Compare", "internal/bytealg.MakeNoZero", "sync/atomic.AddInt32", "sync/atomic.LoadUint32", "(*internal/sync.Mutex).Lock", "internal/race.Disable", "sync/atomic.CompareAndSwapInt32", "internal/race.Enable", "internal/race.Acquire", "(*internal/sync.Mutex).lockSlow", "internal/sync.runtime_canSpin", "internal/sync.runtime_doSpin", "internal/sync.throw", "internal/sync.runtime_nanotime", "internal/sync.runtime_SemacquireMutex", "(*internal/sync.Mutex).Unlock", "internal/race.ReleaseMerge", "(*internal/sync.Mutex).unlockSlow", "internal/sync.fatal", "internal/sync.runtime_Semrelease", "sync/atomic.StoreUint32", "sync/atomic.AddInt64"], unfollowed := true, recurses := true, apart := false, narrowed := true }
def BoxTurnedUptoSaid : Prop := boxTurnedUptoRow.holds Tryz.pinned (OpenSpec.upto boxTurnedSpec)

/-- 'whorllaw30.BoxLimit', WHERE WHAT IT READS IS OF BULK AT MOST 1048576: true; the input reads as it did. -/
def boxLimitUptoRow : OpenClaim := { program := "ytdbebmmhdefgdaagreat", sum := "9725415a7ba31f62cf1da944ba29c077fc9dc25f5ea290b2ea2adb6b0f794ee6", func := "whorl/whorllaw30.BoxLimit", spec := "boxLimit", inPlace := ["internal/bytealg.Compare", "internal/bytealg.MakeNoZero", "sync/atomic.AddInt64", "internal/bytealg.IndexByte", "sync/atomic.AddInt32", "sync/atomic.LoadUint32", "(*internal/sync.Mutex).Lock", "internal/race.Disable", "sync/atomic.CompareAndSwapInt32", "internal/race.Enable", "internal/race.Acquire", "(*internal/sync.Mutex).lockSlow", "internal/sync.runtime_canSpin", "internal/sync.runtime_doSpin", "internal/sync.throw", "internal/sync.runtime_nanotime", "internal/sync.runtime_SemacquireMutex", "(*internal/sync.Mutex).Unlock", "internal/race.ReleaseMerge", "(*internal/sync.Mutex).unlockSlow", "internal/sync.fatal", "internal/sync.runtime_Semrelease", "sync/atomic.StoreUint32"], unfollowed := true, recurses := true, apart := false, narrowed := true }
def BoxLimitUptoSaid : Prop := boxLimitUptoRow.holds Tryz.pinned (OpenSpec.upto boxLimitSpec)

/-- 'whorllaw30.BoxSorters', WHERE WHAT IT READS IS OF BULK AT MOST 1048576: true; the input reads as it did. -/
def boxSortersUptoRow : OpenClaim := { program := "ytdbebmmhdefgdaagreat", sum := "9725415a7ba31f62cf1da944ba29c077fc9dc25f5ea290b2ea2adb6b0f794ee6", func := "whorl/whorllaw30.BoxSorters", spec := "boxSorters", inPlace := ["internal/bytealg.Compare", "internal/bytealg.MakeNoZero", "sync/atomic.AddInt64", "internal/bytealg.IndexByte", "sync/atomic.AddInt32", "sync/atomic.LoadUint32", "(*internal/sync.Mutex).Lock", "internal/race.Disable", "sync/atomic.CompareAndSwapInt32", "internal/race.Enable", "internal/race.Acquire", "(*internal/sync.Mutex).lockSlow", "internal/sync.runtime_canSpin", "internal/sync.runtime_doSpin", "internal/sync.throw", "internal/sync.runtime_nanotime", "internal/sync.runtime_SemacquireMutex", "(*internal/sync.Mutex).Unlock", "internal/race.ReleaseMerge", "(*internal/sync.Mutex).unlockSlow", "internal/sync.fatal", "internal/sync.runtime_Semrelease", "sync/atomic.StoreUint32"], unfollowed := true, recurses := true, apart := false, narrowed := true }
def BoxSortersUptoSaid : Prop := boxSortersUptoRow.holds Tryz.pinned (OpenSpec.upto boxSortersSpec)

/-- 'whorllaw30.BoxBlocks', WHERE WHAT IT READS IS OF BULK AT MOST 1048576: true; the input reads as it did. -/
def boxBlocksUptoRow : OpenClaim := { program := "ytdbebmmhdefgdaagreat", sum := "9725415a7ba31f62cf1da944ba29c077fc9dc25f5ea290b2ea2adb6b0f794ee6", func := "whorl/whorllaw30.BoxBlocks", spec := "boxBlocks", inPlace := ["internal/bytealg.Compare", "internal/bytealg.MakeNoZero", "sync/atomic.AddInt64", "internal/bytealg.IndexByte", "sync/atomic.AddInt32", "sync/atomic.LoadUint32", "(*internal/sync.Mutex).Lock", "internal/race.Disable", "sync/atomic.CompareAndSwapInt32", "internal/race.Enable", "internal/race.Acquire", "(*internal/sync.Mutex).lockSlow", "internal/sync.runtime_canSpin", "internal/sync.runtime_doSpin", "internal/sync.throw", "internal/sync.runtime_nanotime", "internal/sync.runtime_SemacquireMutex", "(*internal/sync.Mutex).Unlock", "internal/race.ReleaseMerge", "(*internal/sync.Mutex).unlockSlow", "internal/sync.fatal", "internal/sync.runtime_Semrelease", "sync/atomic.StoreUint32"], unfollowed := true, recurses := true, apart := false, narrowed := true }
def BoxBlocksUptoSaid : Prop := boxBlocksUptoRow.holds Tryz.pinned (OpenSpec.upto boxBlocksSpec)

/-- 'whorllaw31.PlayDoes', WHERE WHAT IT READS IS OF BULK AT MOST 1048576: true; the input reads as it did. -/
def playDoesUptoRow : OpenClaim := { program := "ytdbebmmhdefgdaagreat", sum := "9725415a7ba31f62cf1da944ba29c077fc9dc25f5ea290b2ea2adb6b0f794ee6", func := "whorl/whorllaw31.PlayDoes", spec := "playDoes", inPlace := ["internal/bytealg.IndexByte", "internal/bytealg.Compare", "internal/bytealg.MakeNoZero", "sync/atomic.AddInt64", "sync/atomic.AddInt32", "sync/atomic.LoadUint32", "(*internal/sync.Mutex).Lock", "internal/race.Disable", "sync/atomic.CompareAndSwapInt32", "internal/race.Enable", "internal/race.Acquire", "(*internal/sync.Mutex).lockSlow", "internal/sync.runtime_canSpin", "internal/sync.runtime_doSpin", "internal/sync.throw", "internal/sync.runtime_nanotime", "internal/sync.runtime_SemacquireMutex", "(*internal/sync.Mutex).Unlock", "internal/race.ReleaseMerge", "(*internal/sync.Mutex).unlockSlow", "internal/sync.fatal", "internal/sync.runtime_Semrelease", "sync/atomic.StoreUint32"], unfollowed := true, recurses := true, apart := false, narrowed := true }
def PlayDoesUptoSaid : Prop := playDoesUptoRow.holds Tryz.pinned (OpenSpec.upto playDoesSpec)

/-- 'whorllaw31.PlayUndoes', WHERE WHAT IT READS IS OF BULK AT MOST 1048576: true; the input reads as it did. -/
def playUndoesUptoRow : OpenClaim := { program := "ytdbebmmhdefgdaagreat", sum := "9725415a7ba31f62cf1da944ba29c077fc9dc25f5ea290b2ea2adb6b0f794ee6", func := "whorl/whorllaw31.PlayUndoes", spec := "playUndoes", inPlace := ["internal/bytealg.IndexByte", "internal/bytealg.Compare", "internal/bytealg.MakeNoZero", "sync/atomic.AddInt64", "sync/atomic.AddInt32", "sync/atomic.LoadUint32", "(*internal/sync.Mutex).Lock", "internal/race.Disable", "sync/atomic.CompareAndSwapInt32", "internal/race.Enable", "internal/race.Acquire", "(*internal/sync.Mutex).lockSlow", "internal/sync.runtime_canSpin", "internal/sync.runtime_doSpin", "internal/sync.throw", "internal/sync.runtime_nanotime", "internal/sync.runtime_SemacquireMutex", "(*internal/sync.Mutex).Unlock", "internal/race.ReleaseMerge", "(*internal/sync.Mutex).unlockSlow", "internal/sync.fatal", "internal/sync.runtime_Semrelease", "sync/atomic.StoreUint32"], unfollowed := true, recurses := true, apart := false, narrowed := true }
def PlayUndoesUptoSaid : Prop := playUndoesUptoRow.holds Tryz.pinned (OpenSpec.upto playUndoesSpec)

/-- 'whorllaw31.PlayErrs', WHERE WHAT IT READS IS OF BULK AT MOST 1048576: true; the input reads as it did. -/
def playErrsUptoRow : OpenClaim := { program := "ytdbebmmhdefgdaagreat", sum := "9725415a7ba31f62cf1da944ba29c077fc9dc25f5ea290b2ea2adb6b0f794ee6", func := "whorl/whorllaw31.PlayErrs", spec := "playErrs", inPlace := ["internal/bytealg.IndexByte", "internal/bytealg.Compare", "internal/bytealg.MakeNoZero", "sync/atomic.AddInt64", "sync/atomic.AddInt32", "sync/atomic.LoadUint32", "(*internal/sync.Mutex).Lock", "internal/race.Disable", "sync/atomic.CompareAndSwapInt32", "internal/race.Enable", "internal/race.Acquire", "(*internal/sync.Mutex).lockSlow", "internal/sync.runtime_canSpin", "internal/sync.runtime_doSpin", "internal/sync.throw", "internal/sync.runtime_nanotime", "internal/sync.runtime_SemacquireMutex", "(*internal/sync.Mutex).Unlock", "internal/race.ReleaseMerge", "(*internal/sync.Mutex).unlockSlow", "internal/sync.fatal", "internal/sync.runtime_Semrelease", "sync/atomic.StoreUint32"], unfollowed := true, recurses := true, apart := false, narrowed := true }
def PlayErrsUptoSaid : Prop := playErrsUptoRow.holds Tryz.pinned (OpenSpec.upto playErrsSpec)

/-- 'whorllaw31.PlayOwn', WHERE WHAT IT READS IS OF BULK AT MOST 1048576: true; the input reads as it did. -/
def playOwnUptoRow : OpenClaim := { program := "ytdbebmmhdefgdaagreat", sum := "9725415a7ba31f62cf1da944ba29c077fc9dc25f5ea290b2ea2adb6b0f794ee6", func := "whorl/whorllaw31.PlayOwn", spec := "playOwn", inPlace := ["internal/bytealg.IndexByte", "internal/bytealg.Compare", "internal/bytealg.MakeNoZero", "sync/atomic.AddInt64", "sync/atomic.AddInt32", "sync/atomic.LoadUint32", "(*internal/sync.Mutex).Lock", "internal/race.Disable", "sync/atomic.CompareAndSwapInt32", "internal/race.Enable", "internal/race.Acquire", "(*internal/sync.Mutex).lockSlow", "internal/sync.runtime_canSpin", "internal/sync.runtime_doSpin", "internal/sync.throw", "internal/sync.runtime_nanotime", "internal/sync.runtime_SemacquireMutex", "(*internal/sync.Mutex).Unlock", "internal/race.ReleaseMerge", "(*internal/sync.Mutex).unlockSlow", "internal/sync.fatal", "internal/sync.runtime_Semrelease", "sync/atomic.StoreUint32"], unfollowed := true, recurses := true, apart := false, narrowed := true }
def PlayOwnUptoSaid : Prop := playOwnUptoRow.holds Tryz.pinned (OpenSpec.upto playOwnSpec)

/-- 'whorllaw31.PlayTop', WHERE WHAT IT READS IS OF BULK AT MOST 1048576: true; the input reads as it did. -/
def playTopUptoRow : OpenClaim := { program := "ytdbebmmhdefgdaagreat", sum := "9725415a7ba31f62cf1da944ba29c077fc9dc25f5ea290b2ea2adb6b0f794ee6", func := "whorl/whorllaw31.PlayTop", spec := "playTop", inPlace := ["internal/bytealg.IndexByte", "internal/bytealg.Compare", "internal/bytealg.MakeNoZero", "sync/atomic.AddInt64", "sync/atomic.AddInt32", "sync/atomic.LoadUint32", "(*internal/sync.Mutex).Lock", "internal/race.Disable", "sync/atomic.CompareAndSwapInt32", "internal/race.Enable", "internal/race.Acquire", "(*internal/sync.Mutex).lockSlow", "internal/sync.runtime_canSpin", "internal/sync.runtime_doSpin", "internal/sync.throw", "internal/sync.runtime_nanotime", "internal/sync.runtime_SemacquireMutex", "(*internal/sync.Mutex).Unlock", "internal/race.ReleaseMerge", "(*internal/sync.Mutex).unlockSlow", "internal/sync.fatal", "internal/sync.runtime_Semrelease", "sync/atomic.StoreUint32"], unfollowed := true, recurses := true, apart := false, narrowed := true }
def PlayTopUptoSaid : Prop := playTopUptoRow.holds Tryz.pinned (OpenSpec.upto playTopSpec)

/-- 'whorltop.TopPlays', WHERE WHAT IT READS IS OF BULK AT MOST 1048576: true; the input reads as it did. -/
def topPlaysUptoRow : OpenClaim := { program := "ytdbebmmhdefgdaagreat", sum := "9725415a7ba31f62cf1da944ba29c077fc9dc25f5ea290b2ea2adb6b0f794ee6", func := "whorl/whorltop.TopPlays", spec := "topPlays", inPlace := ["internal/bytealg.IndexByte", "internal/bytealg.Compare", "internal/bytealg.MakeNoZero", "sync/atomic.AddInt64", "sync/atomic.AddInt32", "sync/atomic.LoadUint32", "(*internal/sync.Mutex).Lock", "internal/race.Disable", "sync/atomic.CompareAndSwapInt32", "internal/race.Enable", "internal/race.Acquire", "(*internal/sync.Mutex).lockSlow", "internal/sync.runtime_canSpin", "internal/sync.runtime_doSpin", "internal/sync.throw", "internal/sync.runtime_nanotime", "internal/sync.runtime_SemacquireMutex", "(*internal/sync.Mutex).Unlock", "internal/race.ReleaseMerge", "(*internal/sync.Mutex).unlockSlow", "internal/sync.fatal", "internal/sync.runtime_Semrelease", "sync/atomic.StoreUint32"], unfollowed := true, recurses := true, apart := false, narrowed := true }
def TopPlaysUptoSaid : Prop := topPlaysUptoRow.holds Tryz.pinned (OpenSpec.upto topPlaysSpec)

end Rows
end Go.Proofs.YtdbebmmhdefgdaaGreat
