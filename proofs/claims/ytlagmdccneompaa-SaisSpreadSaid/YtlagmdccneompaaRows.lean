/-
  No cell of these rows narrows 'for every input' (looked for: loops, veiled, ifaces, maps, wideKeys, modest, calm, conditions, laid).
  DERIVED. THE GIVEN ROWS OF THIS SEAT. 16 by the template 'for every input the law returns true; each argument reads behind the call as it read before'; 0 by the template 'total and deterministic' (their statements: YtlagmdccneompaaTotals.lean).
  GIVEN WITH THE SEED: the statements are not yours to turn. If you find one false, say at which input.
  Laid BY PROGRAM, IN A SANDBOX (cutbox-rows.mjs): the forced cells as the released guide's own fill.sh prints them over the translation 05b2ab285802d7ff… (all of the seat's roots in one cut). By AI agents, Wed Nov 11 2026. No macro, syntax, notation, axiom, sorry.
-/
import Derived.Test.YtlagmdccneompaaChecked
import GoSem.Claim
import GoSem.ClaimJoined
import GoSem.ClaimMapViews
import Derived.JoinedTies
import Derived.KernelRfl
namespace Go.Proofs.Ytlagmdccneompaa
/- THE CELL 'sum', in the pinned program and in every row, IS THE sha256 OF THE DUMP (.gsa) THAT YtlagmdccneompaaProg.lean LOADS. Nothing in Lean hashes anything: it is a label: what it is worth is what the hold of that sum in a sandbox is worth. -/
noncomputable def Try.pinned : Pinned := { name := "ytlagmdccneompaa", sum := "05b2ab285802d7ff09a24727a5dbeff44962115dd259a8183d71f369fc5d5f27", checked := Try.checked }
namespace Rows
def none {H : Type} : Left H := { results := [], args := [] }

/-- 'whorllaw15.DoubleInts': WHATEVER THE INPUT: true; the input reads as it did. -/
def doubleIntsSpec : ChangeSpec := { name := "doubleInts", fn := fun _ => fun
  | [d1, d2] => { results := [.lit (.bool true)], args := [d1, d2] }
  | _ => none }
def doubleIntsRow : OpenClaim := { program := "ytlagmdccneompaa", sum := "05b2ab285802d7ff09a24727a5dbeff44962115dd259a8183d71f369fc5d5f27", func := "whorl/whorllaw15.DoubleInts", spec := "doubleInts", unfollowed := true, recurses := true, apart := false }
def DoubleIntsSaid : Prop := doubleIntsRow.holds Try.pinned (OpenSpec.ofChange doubleIntsSpec)

/-- ITS FALSE NEIGHBOUR: 'it returns false'. Refute it at one input. -/
def doubleIntsWrong : ChangeSpec := { name := "doubleInts", fn := fun _ => fun
  | [d1, d2] => { results := [.lit (.bool false)], args := [d1, d2] }
  | _ => none }
def DoubleIntsWrongFalsely : Prop := doubleIntsRow.holds Try.pinned (OpenSpec.ofChange doubleIntsWrong)

/-- 'whorllaw15.DoubleBytes': WHATEVER THE INPUT: true; the input reads as it did. -/
def doubleBytesSpec : ChangeSpec := { name := "doubleBytes", fn := fun _ => fun
  | [d] => { results := [.lit (.bool true)], args := [d] }
  | _ => none }
def doubleBytesRow : OpenClaim := { program := "ytlagmdccneompaa", sum := "05b2ab285802d7ff09a24727a5dbeff44962115dd259a8183d71f369fc5d5f27", func := "whorl/whorllaw15.DoubleBytes", spec := "doubleBytes", unfollowed := true, recurses := true, apart := false }
def DoubleBytesSaid : Prop := doubleBytesRow.holds Try.pinned (OpenSpec.ofChange doubleBytesSpec)

/-- ITS FALSE NEIGHBOUR: 'it returns false'. Refute it at one input. -/
def doubleBytesWrong : ChangeSpec := { name := "doubleBytes", fn := fun _ => fun
  | [d] => { results := [.lit (.bool false)], args := [d] }
  | _ => none }
def DoubleBytesWrongFalsely : Prop := doubleBytesRow.holds Try.pinned (OpenSpec.ofChange doubleBytesWrong)

/-- 'whorllaw15.DoubleRuns': WHATEVER THE INPUT: true; the input reads as it did. -/
def doubleRunsSpec : ChangeSpec := { name := "doubleRuns", fn := fun _ => fun
  | [d1, d2, d3] => { results := [.lit (.bool true)], args := [d1, d2, d3] }
  | _ => none }
def doubleRunsRow : OpenClaim := { program := "ytlagmdccneompaa", sum := "05b2ab285802d7ff09a24727a5dbeff44962115dd259a8183d71f369fc5d5f27", func := "whorl/whorllaw15.DoubleRuns", spec := "doubleRuns", unfollowed := true, recurses := true, apart := false }
def DoubleRunsSaid : Prop := doubleRunsRow.holds Try.pinned (OpenSpec.ofChange doubleRunsSpec)

/-- ITS FALSE NEIGHBOUR: 'it returns false'. Refute it at one input. -/
def doubleRunsWrong : ChangeSpec := { name := "doubleRuns", fn := fun _ => fun
  | [d1, d2, d3] => { results := [.lit (.bool false)], args := [d1, d2, d3] }
  | _ => none }
def DoubleRunsWrongFalsely : Prop := doubleRunsRow.holds Try.pinned (OpenSpec.ofChange doubleRunsWrong)

/-- 'whorllaw15.DoubleLong': WHATEVER THE INPUT: true; the input reads as it did. -/
def doubleLongSpec : ChangeSpec := { name := "doubleLong", fn := fun _ => fun
  | [d] => { results := [.lit (.bool true)], args := [d] }
  | _ => none }
def doubleLongRow : OpenClaim := { program := "ytlagmdccneompaa", sum := "05b2ab285802d7ff09a24727a5dbeff44962115dd259a8183d71f369fc5d5f27", func := "whorl/whorllaw15.DoubleLong", spec := "doubleLong", unfollowed := true, recurses := true, apart := false }
def DoubleLongSaid : Prop := doubleLongRow.holds Try.pinned (OpenSpec.ofChange doubleLongSpec)

/-- ITS FALSE NEIGHBOUR: 'it returns false'. Refute it at one input. -/
def doubleLongWrong : ChangeSpec := { name := "doubleLong", fn := fun _ => fun
  | [d] => { results := [.lit (.bool false)], args := [d] }
  | _ => none }
def DoubleLongWrongFalsely : Prop := doubleLongRow.holds Try.pinned (OpenSpec.ofChange doubleLongWrong)

/-- 'whorllaw15.DoubleRanks': WHATEVER THE INPUT: true; the input reads as it did. -/
def doubleRanksSpec : ChangeSpec := { name := "doubleRanks", fn := fun _ => fun
  | [d1, d2] => { results := [.lit (.bool true)], args := [d1, d2] }
  | _ => none }
def doubleRanksRow : OpenClaim := { program := "ytlagmdccneompaa", sum := "05b2ab285802d7ff09a24727a5dbeff44962115dd259a8183d71f369fc5d5f27", func := "whorl/whorllaw15.DoubleRanks", spec := "doubleRanks", unfollowed := true, recurses := true, apart := false }
def DoubleRanksSaid : Prop := doubleRanksRow.holds Try.pinned (OpenSpec.ofChange doubleRanksSpec)

/-- ITS FALSE NEIGHBOUR: 'it returns false'. Refute it at one input. -/
def doubleRanksWrong : ChangeSpec := { name := "doubleRanks", fn := fun _ => fun
  | [d1, d2] => { results := [.lit (.bool false)], args := [d1, d2] }
  | _ => none }
def DoubleRanksWrongFalsely : Prop := doubleRanksRow.holds Try.pinned (OpenSpec.ofChange doubleRanksWrong)

/-- 'whorllaw15.DoubleTwice': WHATEVER THE INPUT: true; the input reads as it did. -/
def doubleTwiceSpec : ChangeSpec := { name := "doubleTwice", fn := fun _ => fun
  | [d1, d2] => { results := [.lit (.bool true)], args := [d1, d2] }
  | _ => none }
def doubleTwiceRow : OpenClaim := { program := "ytlagmdccneompaa", sum := "05b2ab285802d7ff09a24727a5dbeff44962115dd259a8183d71f369fc5d5f27", func := "whorl/whorllaw15.DoubleTwice", spec := "doubleTwice", unfollowed := true, recurses := true, apart := false }
def DoubleTwiceSaid : Prop := doubleTwiceRow.holds Try.pinned (OpenSpec.ofChange doubleTwiceSpec)

/-- ITS FALSE NEIGHBOUR: 'it returns false'. Refute it at one input. -/
def doubleTwiceWrong : ChangeSpec := { name := "doubleTwice", fn := fun _ => fun
  | [d1, d2] => { results := [.lit (.bool false)], args := [d1, d2] }
  | _ => none }
def DoubleTwiceWrongFalsely : Prop := doubleTwiceRow.holds Try.pinned (OpenSpec.ofChange doubleTwiceWrong)

/-- 'whorllaw15.DoubleSpread': WHATEVER THE INPUT: true; the input reads as it did. -/
def doubleSpreadSpec : ChangeSpec := { name := "doubleSpread", fn := fun _ => fun
  | [d1, d2, d3] => { results := [.lit (.bool true)], args := [d1, d2, d3] }
  | _ => none }
def doubleSpreadRow : OpenClaim := { program := "ytlagmdccneompaa", sum := "05b2ab285802d7ff09a24727a5dbeff44962115dd259a8183d71f369fc5d5f27", func := "whorl/whorllaw15.DoubleSpread", spec := "doubleSpread", unfollowed := true, recurses := true, apart := false }
def DoubleSpreadSaid : Prop := doubleSpreadRow.holds Try.pinned (OpenSpec.ofChange doubleSpreadSpec)

/-- ITS FALSE NEIGHBOUR: 'it returns false'. Refute it at one input. -/
def doubleSpreadWrong : ChangeSpec := { name := "doubleSpread", fn := fun _ => fun
  | [d1, d2, d3] => { results := [.lit (.bool false)], args := [d1, d2, d3] }
  | _ => none }
def DoubleSpreadWrongFalsely : Prop := doubleSpreadRow.holds Try.pinned (OpenSpec.ofChange doubleSpreadWrong)

/-- 'whorllaw12.InduceSorts': WHATEVER THE INPUT: true; the input reads as it did. -/
def induceSortsSpec : ChangeSpec := { name := "induceSorts", fn := fun _ => fun
  | [d1, d2, d3] => { results := [.lit (.bool true)], args := [d1, d2, d3] }
  | _ => none }
def induceSortsRow : OpenClaim := { program := "ytlagmdccneompaa", sum := "05b2ab285802d7ff09a24727a5dbeff44962115dd259a8183d71f369fc5d5f27", func := "whorl/whorllaw12.InduceSorts", spec := "induceSorts", unfollowed := true, recurses := true, apart := false }
def InduceSortsSaid : Prop := induceSortsRow.holds Try.pinned (OpenSpec.ofChange induceSortsSpec)

/-- ITS FALSE NEIGHBOUR: 'it returns false'. Refute it at one input. -/
def induceSortsWrong : ChangeSpec := { name := "induceSorts", fn := fun _ => fun
  | [d1, d2, d3] => { results := [.lit (.bool false)], args := [d1, d2, d3] }
  | _ => none }
def InduceSortsWrongFalsely : Prop := induceSortsRow.holds Try.pinned (OpenSpec.ofChange induceSortsWrong)

/-- 'whorllaw12.InduceAll': WHATEVER THE INPUT: true; the input reads as it did. -/
def induceAllSpec : ChangeSpec := { name := "induceAll", fn := fun _ => fun
  | [d1, d2, d3] => { results := [.lit (.bool true)], args := [d1, d2, d3] }
  | _ => none }
def induceAllRow : OpenClaim := { program := "ytlagmdccneompaa", sum := "05b2ab285802d7ff09a24727a5dbeff44962115dd259a8183d71f369fc5d5f27", func := "whorl/whorllaw12.InduceAll", spec := "induceAll", unfollowed := true, recurses := true, apart := false }
def InduceAllSaid : Prop := induceAllRow.holds Try.pinned (OpenSpec.ofChange induceAllSpec)

/-- ITS FALSE NEIGHBOUR: 'it returns false'. Refute it at one input. -/
def induceAllWrong : ChangeSpec := { name := "induceAll", fn := fun _ => fun
  | [d1, d2, d3] => { results := [.lit (.bool false)], args := [d1, d2, d3] }
  | _ => none }
def InduceAllWrongFalsely : Prop := induceAllRow.holds Try.pinned (OpenSpec.ofChange induceAllWrong)

/-- 'whorllaw12.InduceRight': WHATEVER THE INPUT: true; the input reads as it did. -/
def induceRightSpec : ChangeSpec := { name := "induceRight", fn := fun _ => fun
  | [d1, d2] => { results := [.lit (.bool true)], args := [d1, d2] }
  | _ => none }
def induceRightRow : OpenClaim := { program := "ytlagmdccneompaa", sum := "05b2ab285802d7ff09a24727a5dbeff44962115dd259a8183d71f369fc5d5f27", func := "whorl/whorllaw12.InduceRight", spec := "induceRight", unfollowed := true, recurses := true, apart := false }
def InduceRightSaid : Prop := induceRightRow.holds Try.pinned (OpenSpec.ofChange induceRightSpec)

/-- ITS FALSE NEIGHBOUR: 'it returns false'. Refute it at one input. -/
def induceRightWrong : ChangeSpec := { name := "induceRight", fn := fun _ => fun
  | [d1, d2] => { results := [.lit (.bool false)], args := [d1, d2] }
  | _ => none }
def InduceRightWrongFalsely : Prop := induceRightRow.holds Try.pinned (OpenSpec.ofChange induceRightWrong)

/-- 'whorllaw12.InduceOwn': WHATEVER THE INPUT: true; the input reads as it did. -/
def induceOwnSpec : ChangeSpec := { name := "induceOwn", fn := fun _ => fun
  | [d1, d2] => { results := [.lit (.bool true)], args := [d1, d2] }
  | _ => none }
def induceOwnRow : OpenClaim := { program := "ytlagmdccneompaa", sum := "05b2ab285802d7ff09a24727a5dbeff44962115dd259a8183d71f369fc5d5f27", func := "whorl/whorllaw12.InduceOwn", spec := "induceOwn", unfollowed := true, recurses := true, apart := false }
def InduceOwnSaid : Prop := induceOwnRow.holds Try.pinned (OpenSpec.ofChange induceOwnSpec)

/-- ITS FALSE NEIGHBOUR: 'it returns false'. Refute it at one input. -/
def induceOwnWrong : ChangeSpec := { name := "induceOwn", fn := fun _ => fun
  | [d1, d2] => { results := [.lit (.bool false)], args := [d1, d2] }
  | _ => none }
def InduceOwnWrongFalsely : Prop := induceOwnRow.holds Try.pinned (OpenSpec.ofChange induceOwnWrong)

/-- 'whorllaw13.SaisInts': WHATEVER THE INPUT: true; the input reads as it did. -/
def saisIntsSpec : ChangeSpec := { name := "saisInts", fn := fun _ => fun
  | [d1, d2] => { results := [.lit (.bool true)], args := [d1, d2] }
  | _ => none }
def saisIntsRow : OpenClaim := { program := "ytlagmdccneompaa", sum := "05b2ab285802d7ff09a24727a5dbeff44962115dd259a8183d71f369fc5d5f27", func := "whorl/whorllaw13.SaisInts", spec := "saisInts", unfollowed := true, recurses := true, apart := false }
def SaisIntsSaid : Prop := saisIntsRow.holds Try.pinned (OpenSpec.ofChange saisIntsSpec)

/-- ITS FALSE NEIGHBOUR: 'it returns false'. Refute it at one input. -/
def saisIntsWrong : ChangeSpec := { name := "saisInts", fn := fun _ => fun
  | [d1, d2] => { results := [.lit (.bool false)], args := [d1, d2] }
  | _ => none }
def SaisIntsWrongFalsely : Prop := saisIntsRow.holds Try.pinned (OpenSpec.ofChange saisIntsWrong)

/-- 'whorllaw13.SaisBytes': WHATEVER THE INPUT: true; the input reads as it did. -/
def saisBytesSpec : ChangeSpec := { name := "saisBytes", fn := fun _ => fun
  | [d] => { results := [.lit (.bool true)], args := [d] }
  | _ => none }
def saisBytesRow : OpenClaim := { program := "ytlagmdccneompaa", sum := "05b2ab285802d7ff09a24727a5dbeff44962115dd259a8183d71f369fc5d5f27", func := "whorl/whorllaw13.SaisBytes", spec := "saisBytes", unfollowed := true, recurses := true, apart := false }
def SaisBytesSaid : Prop := saisBytesRow.holds Try.pinned (OpenSpec.ofChange saisBytesSpec)

/-- ITS FALSE NEIGHBOUR: 'it returns false'. Refute it at one input. -/
def saisBytesWrong : ChangeSpec := { name := "saisBytes", fn := fun _ => fun
  | [d] => { results := [.lit (.bool false)], args := [d] }
  | _ => none }
def SaisBytesWrongFalsely : Prop := saisBytesRow.holds Try.pinned (OpenSpec.ofChange saisBytesWrong)

/-- 'whorllaw13.SaisRuns': WHATEVER THE INPUT: true; the input reads as it did. -/
def saisRunsSpec : ChangeSpec := { name := "saisRuns", fn := fun _ => fun
  | [d1, d2, d3] => { results := [.lit (.bool true)], args := [d1, d2, d3] }
  | _ => none }
def saisRunsRow : OpenClaim := { program := "ytlagmdccneompaa", sum := "05b2ab285802d7ff09a24727a5dbeff44962115dd259a8183d71f369fc5d5f27", func := "whorl/whorllaw13.SaisRuns", spec := "saisRuns", unfollowed := true, recurses := true, apart := false }
def SaisRunsSaid : Prop := saisRunsRow.holds Try.pinned (OpenSpec.ofChange saisRunsSpec)

/-- ITS FALSE NEIGHBOUR: 'it returns false'. Refute it at one input. -/
def saisRunsWrong : ChangeSpec := { name := "saisRuns", fn := fun _ => fun
  | [d1, d2, d3] => { results := [.lit (.bool false)], args := [d1, d2, d3] }
  | _ => none }
def SaisRunsWrongFalsely : Prop := saisRunsRow.holds Try.pinned (OpenSpec.ofChange saisRunsWrong)

/-- 'whorllaw13.SaisLong': WHATEVER THE INPUT: true; the input reads as it did. -/
def saisLongSpec : ChangeSpec := { name := "saisLong", fn := fun _ => fun
  | [d] => { results := [.lit (.bool true)], args := [d] }
  | _ => none }
def saisLongRow : OpenClaim := { program := "ytlagmdccneompaa", sum := "05b2ab285802d7ff09a24727a5dbeff44962115dd259a8183d71f369fc5d5f27", func := "whorl/whorllaw13.SaisLong", spec := "saisLong", unfollowed := true, recurses := true, apart := false }
def SaisLongSaid : Prop := saisLongRow.holds Try.pinned (OpenSpec.ofChange saisLongSpec)

/-- ITS FALSE NEIGHBOUR: 'it returns false'. Refute it at one input. -/
def saisLongWrong : ChangeSpec := { name := "saisLong", fn := fun _ => fun
  | [d] => { results := [.lit (.bool false)], args := [d] }
  | _ => none }
def SaisLongWrongFalsely : Prop := saisLongRow.holds Try.pinned (OpenSpec.ofChange saisLongWrong)

/-- 'whorllaw13.SaisSpread': WHATEVER THE INPUT: true; the input reads as it did. -/
def saisSpreadSpec : ChangeSpec := { name := "saisSpread", fn := fun _ => fun
  | [d1, d2, d3] => { results := [.lit (.bool true)], args := [d1, d2, d3] }
  | _ => none }
def saisSpreadRow : OpenClaim := { program := "ytlagmdccneompaa", sum := "05b2ab285802d7ff09a24727a5dbeff44962115dd259a8183d71f369fc5d5f27", func := "whorl/whorllaw13.SaisSpread", spec := "saisSpread", unfollowed := true, recurses := true, apart := false }
def SaisSpreadSaid : Prop := saisSpreadRow.holds Try.pinned (OpenSpec.ofChange saisSpreadSpec)

/-- ITS FALSE NEIGHBOUR: 'it returns false'. Refute it at one input. -/
def saisSpreadWrong : ChangeSpec := { name := "saisSpread", fn := fun _ => fun
  | [d1, d2, d3] => { results := [.lit (.bool false)], args := [d1, d2, d3] }
  | _ => none }
def SaisSpreadWrongFalsely : Prop := saisSpreadRow.holds Try.pinned (OpenSpec.ofChange saisSpreadWrong)

/- THE SECOND FORM. 'bulk': how many values and letters a reading holds, each counted each time it is reached (what is shared counts as often as it is met; a slice's spare places count too). A statement '..UptoSaid' is the law's where the arguments, and the package variables that the reading takes, are together of bulk at most 1048576: NARROWER than '..Said'. Prove '..Said' where nothing that the law and all that it calls make is longer than what came in: it says more and counts as full. Else prove '..UptoSaid'. A law counts once. -/
mutual
def uptoBulk {H : Type} : DataW H → Nat
  | .lit (.string bytes) => bytes.length + 1
  | .lit _ => 1
  | .nil => 1
  | .ptr d => uptoBulk d + 1
  | .slice elems spare => uptoBulkAll elems + uptoBulkAll spare + 1
  | .agg parts => uptoBulkAll parts + 1
  | .iface _ d => uptoBulk d + 1
  | .map entries => uptoBulkEntries entries + 1
  | .held _ => 1
def uptoBulkAll {H : Type} : List (DataW H) → Nat
  | [] => 0
  | d :: r => uptoBulk d + uptoBulkAll r
def uptoBulkEntries {H : Type} : List (Lit × DataW H) → Nat
  | [] => 0
  | x :: r => uptoBulkEntry x + uptoBulkEntries r
def uptoBulkEntry {H : Type} : Lit × DataW H → Nat
  | (.string bytes, d) => bytes.length + uptoBulk d + 1
  | (_, d) => uptoBulk d + 1
 end
def uptoSmall : (H : Type) → List (DataW H) → Bool := fun _ ds => decide (uptoBulkAll ds ≤ 1048576)
def OpenSpec.upto (s : _root_.Go.ChangeSpec) : _root_.Go.OpenSpec := { _root_.Go.OpenSpec.ofChange s with cond := some uptoSmall }

/-- 'whorllaw15.DoubleInts', WHERE WHAT IT READS IS OF BULK AT MOST 1048576: true; the input reads as it did. -/
def doubleIntsUptoRow : OpenClaim := { program := "ytlagmdccneompaa", sum := "05b2ab285802d7ff09a24727a5dbeff44962115dd259a8183d71f369fc5d5f27", func := "whorl/whorllaw15.DoubleInts", spec := "doubleInts", unfollowed := true, recurses := true, apart := false, narrowed := true }
def DoubleIntsUptoSaid : Prop := doubleIntsUptoRow.holds Try.pinned (OpenSpec.upto doubleIntsSpec)

/-- 'whorllaw15.DoubleBytes', WHERE WHAT IT READS IS OF BULK AT MOST 1048576: true; the input reads as it did. -/
def doubleBytesUptoRow : OpenClaim := { program := "ytlagmdccneompaa", sum := "05b2ab285802d7ff09a24727a5dbeff44962115dd259a8183d71f369fc5d5f27", func := "whorl/whorllaw15.DoubleBytes", spec := "doubleBytes", unfollowed := true, recurses := true, apart := false, narrowed := true }
def DoubleBytesUptoSaid : Prop := doubleBytesUptoRow.holds Try.pinned (OpenSpec.upto doubleBytesSpec)

/-- 'whorllaw15.DoubleRuns', WHERE WHAT IT READS IS OF BULK AT MOST 1048576: true; the input reads as it did. -/
def doubleRunsUptoRow : OpenClaim := { program := "ytlagmdccneompaa", sum := "05b2ab285802d7ff09a24727a5dbeff44962115dd259a8183d71f369fc5d5f27", func := "whorl/whorllaw15.DoubleRuns", spec := "doubleRuns", unfollowed := true, recurses := true, apart := false, narrowed := true }
def DoubleRunsUptoSaid : Prop := doubleRunsUptoRow.holds Try.pinned (OpenSpec.upto doubleRunsSpec)

/-- 'whorllaw15.DoubleLong', WHERE WHAT IT READS IS OF BULK AT MOST 1048576: true; the input reads as it did. -/
def doubleLongUptoRow : OpenClaim := { program := "ytlagmdccneompaa", sum := "05b2ab285802d7ff09a24727a5dbeff44962115dd259a8183d71f369fc5d5f27", func := "whorl/whorllaw15.DoubleLong", spec := "doubleLong", unfollowed := true, recurses := true, apart := false, narrowed := true }
def DoubleLongUptoSaid : Prop := doubleLongUptoRow.holds Try.pinned (OpenSpec.upto doubleLongSpec)

/-- 'whorllaw15.DoubleRanks', WHERE WHAT IT READS IS OF BULK AT MOST 1048576: true; the input reads as it did. -/
def doubleRanksUptoRow : OpenClaim := { program := "ytlagmdccneompaa", sum := "05b2ab285802d7ff09a24727a5dbeff44962115dd259a8183d71f369fc5d5f27", func := "whorl/whorllaw15.DoubleRanks", spec := "doubleRanks", unfollowed := true, recurses := true, apart := false, narrowed := true }
def DoubleRanksUptoSaid : Prop := doubleRanksUptoRow.holds Try.pinned (OpenSpec.upto doubleRanksSpec)

/-- 'whorllaw15.DoubleTwice', WHERE WHAT IT READS IS OF BULK AT MOST 1048576: true; the input reads as it did. -/
def doubleTwiceUptoRow : OpenClaim := { program := "ytlagmdccneompaa", sum := "05b2ab285802d7ff09a24727a5dbeff44962115dd259a8183d71f369fc5d5f27", func := "whorl/whorllaw15.DoubleTwice", spec := "doubleTwice", unfollowed := true, recurses := true, apart := false, narrowed := true }
def DoubleTwiceUptoSaid : Prop := doubleTwiceUptoRow.holds Try.pinned (OpenSpec.upto doubleTwiceSpec)

/-- 'whorllaw15.DoubleSpread', WHERE WHAT IT READS IS OF BULK AT MOST 1048576: true; the input reads as it did. -/
def doubleSpreadUptoRow : OpenClaim := { program := "ytlagmdccneompaa", sum := "05b2ab285802d7ff09a24727a5dbeff44962115dd259a8183d71f369fc5d5f27", func := "whorl/whorllaw15.DoubleSpread", spec := "doubleSpread", unfollowed := true, recurses := true, apart := false, narrowed := true }
def DoubleSpreadUptoSaid : Prop := doubleSpreadUptoRow.holds Try.pinned (OpenSpec.upto doubleSpreadSpec)

/-- 'whorllaw12.InduceSorts', WHERE WHAT IT READS IS OF BULK AT MOST 1048576: true; the input reads as it did. -/
def induceSortsUptoRow : OpenClaim := { program := "ytlagmdccneompaa", sum := "05b2ab285802d7ff09a24727a5dbeff44962115dd259a8183d71f369fc5d5f27", func := "whorl/whorllaw12.InduceSorts", spec := "induceSorts", unfollowed := true, recurses := true, apart := false, narrowed := true }
def InduceSortsUptoSaid : Prop := induceSortsUptoRow.holds Try.pinned (OpenSpec.upto induceSortsSpec)

/-- 'whorllaw12.InduceAll', WHERE WHAT IT READS IS OF BULK AT MOST 1048576: true; the input reads as it did. -/
def induceAllUptoRow : OpenClaim := { program := "ytlagmdccneompaa", sum := "05b2ab285802d7ff09a24727a5dbeff44962115dd259a8183d71f369fc5d5f27", func := "whorl/whorllaw12.InduceAll", spec := "induceAll", unfollowed := true, recurses := true, apart := false, narrowed := true }
def InduceAllUptoSaid : Prop := induceAllUptoRow.holds Try.pinned (OpenSpec.upto induceAllSpec)

/-- 'whorllaw12.InduceRight', WHERE WHAT IT READS IS OF BULK AT MOST 1048576: true; the input reads as it did. -/
def induceRightUptoRow : OpenClaim := { program := "ytlagmdccneompaa", sum := "05b2ab285802d7ff09a24727a5dbeff44962115dd259a8183d71f369fc5d5f27", func := "whorl/whorllaw12.InduceRight", spec := "induceRight", unfollowed := true, recurses := true, apart := false, narrowed := true }
def InduceRightUptoSaid : Prop := induceRightUptoRow.holds Try.pinned (OpenSpec.upto induceRightSpec)

/-- 'whorllaw12.InduceOwn', WHERE WHAT IT READS IS OF BULK AT MOST 1048576: true; the input reads as it did. -/
def induceOwnUptoRow : OpenClaim := { program := "ytlagmdccneompaa", sum := "05b2ab285802d7ff09a24727a5dbeff44962115dd259a8183d71f369fc5d5f27", func := "whorl/whorllaw12.InduceOwn", spec := "induceOwn", unfollowed := true, recurses := true, apart := false, narrowed := true }
def InduceOwnUptoSaid : Prop := induceOwnUptoRow.holds Try.pinned (OpenSpec.upto induceOwnSpec)

/-- 'whorllaw13.SaisInts', WHERE WHAT IT READS IS OF BULK AT MOST 1048576: true; the input reads as it did. -/
def saisIntsUptoRow : OpenClaim := { program := "ytlagmdccneompaa", sum := "05b2ab285802d7ff09a24727a5dbeff44962115dd259a8183d71f369fc5d5f27", func := "whorl/whorllaw13.SaisInts", spec := "saisInts", unfollowed := true, recurses := true, apart := false, narrowed := true }
def SaisIntsUptoSaid : Prop := saisIntsUptoRow.holds Try.pinned (OpenSpec.upto saisIntsSpec)

/-- 'whorllaw13.SaisBytes', WHERE WHAT IT READS IS OF BULK AT MOST 1048576: true; the input reads as it did. -/
def saisBytesUptoRow : OpenClaim := { program := "ytlagmdccneompaa", sum := "05b2ab285802d7ff09a24727a5dbeff44962115dd259a8183d71f369fc5d5f27", func := "whorl/whorllaw13.SaisBytes", spec := "saisBytes", unfollowed := true, recurses := true, apart := false, narrowed := true }
def SaisBytesUptoSaid : Prop := saisBytesUptoRow.holds Try.pinned (OpenSpec.upto saisBytesSpec)

/-- 'whorllaw13.SaisRuns', WHERE WHAT IT READS IS OF BULK AT MOST 1048576: true; the input reads as it did. -/
def saisRunsUptoRow : OpenClaim := { program := "ytlagmdccneompaa", sum := "05b2ab285802d7ff09a24727a5dbeff44962115dd259a8183d71f369fc5d5f27", func := "whorl/whorllaw13.SaisRuns", spec := "saisRuns", unfollowed := true, recurses := true, apart := false, narrowed := true }
def SaisRunsUptoSaid : Prop := saisRunsUptoRow.holds Try.pinned (OpenSpec.upto saisRunsSpec)

/-- 'whorllaw13.SaisLong', WHERE WHAT IT READS IS OF BULK AT MOST 1048576: true; the input reads as it did. -/
def saisLongUptoRow : OpenClaim := { program := "ytlagmdccneompaa", sum := "05b2ab285802d7ff09a24727a5dbeff44962115dd259a8183d71f369fc5d5f27", func := "whorl/whorllaw13.SaisLong", spec := "saisLong", unfollowed := true, recurses := true, apart := false, narrowed := true }
def SaisLongUptoSaid : Prop := saisLongUptoRow.holds Try.pinned (OpenSpec.upto saisLongSpec)

/-- 'whorllaw13.SaisSpread', WHERE WHAT IT READS IS OF BULK AT MOST 1048576: true; the input reads as it did. -/
def saisSpreadUptoRow : OpenClaim := { program := "ytlagmdccneompaa", sum := "05b2ab285802d7ff09a24727a5dbeff44962115dd259a8183d71f369fc5d5f27", func := "whorl/whorllaw13.SaisSpread", spec := "saisSpread", unfollowed := true, recurses := true, apart := false, narrowed := true }
def SaisSpreadUptoSaid : Prop := saisSpreadUptoRow.holds Try.pinned (OpenSpec.upto saisSpreadSpec)

end Rows
end Go.Proofs.Ytlagmdccneompaa
