/-
  No cell of these rows narrows 'for every input' (looked for: loops, veiled, ifaces, maps, wideKeys, modest, calm, conditions, laid).
  DERIVED. THE GIVEN ROWS OF THIS SEAT. 11 by the template 'for every input the law returns true; each argument reads behind the call as it read before'; 0 by the template 'total and deterministic' (their statements: YtdfcnalkdlifiaaTotals.lean).
  GIVEN WITH THE SEED: the statements are not yours to turn. If you find one false, say at which input.
  Laid BY PROGRAM, IN A SANDBOX (cutbox-rows.mjs): the forced cells as the released guide's own fill.sh prints them over the translation e405827e796e7660… (all of the seat's roots in one cut). By AI agents, Wed Nov 11 2026. No macro, syntax, notation, axiom, sorry.
-/
import Derived.Test.YtdfcnalkdlifiaaChecked
import GoSem.Claim
import GoSem.ClaimJoined
import GoSem.ClaimMapViews
import Derived.JoinedTies
import Derived.KernelRfl
namespace Go.Proofs.Ytdfcnalkdlifiaa
/- THE CELL 'sum', in the pinned program and in every row, IS THE sha256 OF THE DUMP (.gsa) THAT YtdfcnalkdlifiaaProg.lean LOADS. Nothing in Lean hashes anything: it is a label: what it is worth is what the hold of that sum in a sandbox is worth. -/
noncomputable def Try.pinned : Pinned := { name := "ytdfcnalkdlifiaa", sum := "e405827e796e7660c0f930044760759839ea4ab2dfec15a1f951623979a9eacd", checked := Try.checked }
namespace Rows
def none {H : Type} : Left H := { results := [], args := [] }

/-- 'whorllaw23.BijTurns': WHATEVER THE INPUT: true; the input reads as it did. -/
def bijTurnsSpec : ChangeSpec := { name := "bijTurns", fn := fun _ => fun
  | [d] => { results := [.lit (.bool true)], args := [d] }
  | _ => none }
def bijTurnsRow : OpenClaim := { program := "ytdfcnalkdlifiaa", sum := "e405827e796e7660c0f930044760759839ea4ab2dfec15a1f951623979a9eacd", func := "whorl/whorllaw23.BijTurns", spec := "bijTurns", unfollowed := true, recurses := true, apart := false }
def BijTurnsSaid : Prop := bijTurnsRow.holds Try.pinned (OpenSpec.ofChange bijTurnsSpec)

/-- ITS FALSE NEIGHBOUR: 'it returns false'. Refute it at one input. -/
def bijTurnsWrong : ChangeSpec := { name := "bijTurns", fn := fun _ => fun
  | [d] => { results := [.lit (.bool false)], args := [d] }
  | _ => none }
def BijTurnsWrongFalsely : Prop := bijTurnsRow.holds Try.pinned (OpenSpec.ofChange bijTurnsWrong)

/-- 'whorllaw23.BijLetters': WHATEVER THE INPUT: true; the input reads as it did. -/
def bijLettersSpec : ChangeSpec := { name := "bijLetters", fn := fun _ => fun
  | [d] => { results := [.lit (.bool true)], args := [d] }
  | _ => none }
def bijLettersRow : OpenClaim := { program := "ytdfcnalkdlifiaa", sum := "e405827e796e7660c0f930044760759839ea4ab2dfec15a1f951623979a9eacd", func := "whorl/whorllaw23.BijLetters", spec := "bijLetters", unfollowed := true, recurses := true, apart := false }
def BijLettersSaid : Prop := bijLettersRow.holds Try.pinned (OpenSpec.ofChange bijLettersSpec)

/-- ITS FALSE NEIGHBOUR: 'it returns false'. Refute it at one input. -/
def bijLettersWrong : ChangeSpec := { name := "bijLetters", fn := fun _ => fun
  | [d] => { results := [.lit (.bool false)], args := [d] }
  | _ => none }
def BijLettersWrongFalsely : Prop := bijLettersRow.holds Try.pinned (OpenSpec.ofChange bijLettersWrong)

/-- 'whorllaw9.NecklaceTwice': WHATEVER THE INPUT: true; the input reads as it did. -/
def necklaceTwiceSpec : ChangeSpec := { name := "necklaceTwice", fn := fun _ => fun
  | [d] => { results := [.lit (.bool true)], args := [d] }
  | _ => none }
def necklaceTwiceRow : OpenClaim := { program := "ytdfcnalkdlifiaa", sum := "e405827e796e7660c0f930044760759839ea4ab2dfec15a1f951623979a9eacd", func := "whorl/whorllaw9.NecklaceTwice", spec := "necklaceTwice", inPlace := ["internal/bytealg.Compare", "internal/bytealg.MakeNoZero"], unfollowed := true, recurses := true, apart := false }
def NecklaceTwiceSaid : Prop := necklaceTwiceRow.holds Try.pinned (OpenSpec.ofChange necklaceTwiceSpec)

/-- ITS FALSE NEIGHBOUR: 'it returns false'. Refute it at one input. -/
def necklaceTwiceWrong : ChangeSpec := { name := "necklaceTwice", fn := fun _ => fun
  | [d] => { results := [.lit (.bool false)], args := [d] }
  | _ => none }
def NecklaceTwiceWrongFalsely : Prop := necklaceTwiceRow.holds Try.pinned (OpenSpec.ofChange necklaceTwiceWrong)

/-- 'whorllaw9.NecklaceCanons': WHATEVER THE INPUT: true; the input reads as it did. -/
def necklaceCanonsSpec : ChangeSpec := { name := "necklaceCanons", fn := fun _ => fun
  | [d] => { results := [.lit (.bool true)], args := [d] }
  | _ => none }
def necklaceCanonsRow : OpenClaim := { program := "ytdfcnalkdlifiaa", sum := "e405827e796e7660c0f930044760759839ea4ab2dfec15a1f951623979a9eacd", func := "whorl/whorllaw9.NecklaceCanons", spec := "necklaceCanons", inPlace := ["internal/bytealg.Compare", "internal/bytealg.MakeNoZero"], unfollowed := true, recurses := true, apart := false }
def NecklaceCanonsSaid : Prop := necklaceCanonsRow.holds Try.pinned (OpenSpec.ofChange necklaceCanonsSpec)

/-- ITS FALSE NEIGHBOUR: 'it returns false'. Refute it at one input. -/
def necklaceCanonsWrong : ChangeSpec := { name := "necklaceCanons", fn := fun _ => fun
  | [d] => { results := [.lit (.bool false)], args := [d] }
  | _ => none }
def NecklaceCanonsWrongFalsely : Prop := necklaceCanonsRow.holds Try.pinned (OpenSpec.ofChange necklaceCanonsWrong)

/-- 'whorllaw24.ExtRings': WHATEVER THE INPUT: true; the input reads as it did. -/
def extRingsSpec : ChangeSpec := { name := "extRings", fn := fun _ => fun
  | [d1, d2] => { results := [.lit (.bool true)], args := [d1, d2] }
  | _ => none }
def extRingsRow : OpenClaim := { program := "ytdfcnalkdlifiaa", sum := "e405827e796e7660c0f930044760759839ea4ab2dfec15a1f951623979a9eacd", func := "whorl/whorllaw24.ExtRings", spec := "extRings", inPlace := ["internal/bytealg.Compare"], unfollowed := true, recurses := true, apart := false }
def ExtRingsSaid : Prop := extRingsRow.holds Try.pinned (OpenSpec.ofChange extRingsSpec)

/-- ITS FALSE NEIGHBOUR: 'it returns false'. Refute it at one input. -/
def extRingsWrong : ChangeSpec := { name := "extRings", fn := fun _ => fun
  | [d1, d2] => { results := [.lit (.bool false)], args := [d1, d2] }
  | _ => none }
def ExtRingsWrongFalsely : Prop := extRingsRow.holds Try.pinned (OpenSpec.ofChange extRingsWrong)

/-- 'whorllaw23.BijBacks': WHATEVER THE INPUT: true; the input reads as it did. -/
def bijBacksSpec : ChangeSpec := { name := "bijBacks", fn := fun _ => fun
  | [d] => { results := [.lit (.bool true)], args := [d] }
  | _ => none }
def bijBacksRow : OpenClaim := { program := "ytdfcnalkdlifiaa", sum := "e405827e796e7660c0f930044760759839ea4ab2dfec15a1f951623979a9eacd", func := "whorl/whorllaw23.BijBacks", spec := "bijBacks", unfollowed := true, recurses := true, apart := false }
def BijBacksSaid : Prop := bijBacksRow.holds Try.pinned (OpenSpec.ofChange bijBacksSpec)

/-- ITS FALSE NEIGHBOUR: 'it returns false'. Refute it at one input. -/
def bijBacksWrong : ChangeSpec := { name := "bijBacks", fn := fun _ => fun
  | [d] => { results := [.lit (.bool false)], args := [d] }
  | _ => none }
def BijBacksWrongFalsely : Prop := bijBacksRow.holds Try.pinned (OpenSpec.ofChange bijBacksWrong)

/-- 'whorllaw23.BijBoth': WHATEVER THE INPUT: true; the input reads as it did. -/
def bijBothSpec : ChangeSpec := { name := "bijBoth", fn := fun _ => fun
  | [d] => { results := [.lit (.bool true)], args := [d] }
  | _ => none }
def bijBothRow : OpenClaim := { program := "ytdfcnalkdlifiaa", sum := "e405827e796e7660c0f930044760759839ea4ab2dfec15a1f951623979a9eacd", func := "whorl/whorllaw23.BijBoth", spec := "bijBoth", unfollowed := true, recurses := true, apart := false }
def BijBothSaid : Prop := bijBothRow.holds Try.pinned (OpenSpec.ofChange bijBothSpec)

/-- ITS FALSE NEIGHBOUR: 'it returns false'. Refute it at one input. -/
def bijBothWrong : ChangeSpec := { name := "bijBoth", fn := fun _ => fun
  | [d] => { results := [.lit (.bool false)], args := [d] }
  | _ => none }
def BijBothWrongFalsely : Prop := bijBothRow.holds Try.pinned (OpenSpec.ofChange bijBothWrong)

/-- 'whorllaw23.BijRuns': WHATEVER THE INPUT: true; the input reads as it did. -/
def bijRunsSpec : ChangeSpec := { name := "bijRuns", fn := fun _ => fun
  | [d1, d2] => { results := [.lit (.bool true)], args := [d1, d2] }
  | _ => none }
def bijRunsRow : OpenClaim := { program := "ytdfcnalkdlifiaa", sum := "e405827e796e7660c0f930044760759839ea4ab2dfec15a1f951623979a9eacd", func := "whorl/whorllaw23.BijRuns", spec := "bijRuns", unfollowed := true, recurses := true, apart := false }
def BijRunsSaid : Prop := bijRunsRow.holds Try.pinned (OpenSpec.ofChange bijRunsSpec)

/-- ITS FALSE NEIGHBOUR: 'it returns false'. Refute it at one input. -/
def bijRunsWrong : ChangeSpec := { name := "bijRuns", fn := fun _ => fun
  | [d1, d2] => { results := [.lit (.bool false)], args := [d1, d2] }
  | _ => none }
def BijRunsWrongFalsely : Prop := bijRunsRow.holds Try.pinned (OpenSpec.ofChange bijRunsWrong)

/-- 'whorllaw9.NecklaceSame': WHATEVER THE INPUT: true; the input reads as it did. -/
def necklaceSameSpec : ChangeSpec := { name := "necklaceSame", fn := fun _ => fun
  | [d1, d2, d3] => { results := [.lit (.bool true)], args := [d1, d2, d3] }
  | _ => none }
def necklaceSameRow : OpenClaim := { program := "ytdfcnalkdlifiaa", sum := "e405827e796e7660c0f930044760759839ea4ab2dfec15a1f951623979a9eacd", func := "whorl/whorllaw9.NecklaceSame", spec := "necklaceSame", inPlace := ["internal/bytealg.Compare", "internal/bytealg.MakeNoZero"], unfollowed := true, recurses := true, apart := false }
def NecklaceSameSaid : Prop := necklaceSameRow.holds Try.pinned (OpenSpec.ofChange necklaceSameSpec)

/-- ITS FALSE NEIGHBOUR: 'it returns false'. Refute it at one input. -/
def necklaceSameWrong : ChangeSpec := { name := "necklaceSame", fn := fun _ => fun
  | [d1, d2, d3] => { results := [.lit (.bool false)], args := [d1, d2, d3] }
  | _ => none }
def NecklaceSameWrongFalsely : Prop := necklaceSameRow.holds Try.pinned (OpenSpec.ofChange necklaceSameWrong)

/-- 'whorllaw9.NecklaceParts': WHATEVER THE INPUT: true; the input reads as it did. -/
def necklacePartsSpec : ChangeSpec := { name := "necklaceParts", fn := fun _ => fun
  | [d1, d2] => { results := [.lit (.bool true)], args := [d1, d2] }
  | _ => none }
def necklacePartsRow : OpenClaim := { program := "ytdfcnalkdlifiaa", sum := "e405827e796e7660c0f930044760759839ea4ab2dfec15a1f951623979a9eacd", func := "whorl/whorllaw9.NecklaceParts", spec := "necklaceParts", inPlace := ["internal/bytealg.Compare", "internal/bytealg.MakeNoZero"], unfollowed := true, recurses := true, apart := false }
def NecklacePartsSaid : Prop := necklacePartsRow.holds Try.pinned (OpenSpec.ofChange necklacePartsSpec)

/-- ITS FALSE NEIGHBOUR: 'it returns false'. Refute it at one input. -/
def necklacePartsWrong : ChangeSpec := { name := "necklaceParts", fn := fun _ => fun
  | [d1, d2] => { results := [.lit (.bool false)], args := [d1, d2] }
  | _ => none }
def NecklacePartsWrongFalsely : Prop := necklacePartsRow.holds Try.pinned (OpenSpec.ofChange necklacePartsWrong)

/-- 'whorllaw24.ExtMany': WHATEVER THE INPUT: true; the input reads as it did. -/
def extManySpec : ChangeSpec := { name := "extMany", fn := fun _ => fun
  | [d1, d2] => { results := [.lit (.bool true)], args := [d1, d2] }
  | _ => none }
def extManyRow : OpenClaim := { program := "ytdfcnalkdlifiaa", sum := "e405827e796e7660c0f930044760759839ea4ab2dfec15a1f951623979a9eacd", func := "whorl/whorllaw24.ExtMany", spec := "extMany", inPlace := ["internal/bytealg.Compare", "internal/bytealg.MakeNoZero"], unfollowed := true, recurses := true, apart := false }
def ExtManySaid : Prop := extManyRow.holds Try.pinned (OpenSpec.ofChange extManySpec)

/-- ITS FALSE NEIGHBOUR: 'it returns false'. Refute it at one input. -/
def extManyWrong : ChangeSpec := { name := "extMany", fn := fun _ => fun
  | [d1, d2] => { results := [.lit (.bool false)], args := [d1, d2] }
  | _ => none }
def ExtManyWrongFalsely : Prop := extManyRow.holds Try.pinned (OpenSpec.ofChange extManyWrong)

/- THE SECOND FORM. 'bulk': how many values and letters a reading holds, each counted each time it is reached (what is shared counts as often as it is met; a slice's spare places count too). A statement '..UptoSaid' is the law's where the arguments, and the package variables that the reading takes, are together of bulk at most 1048576: NARROWER than '..Said'. Prove '..Said' where nothing that the law and all that it calls make is longer than what came in: it says more and counts as full. Else prove '..UptoSaid'. A law counts once. -/
mutual
def uptoBulk {H : Type} : DataW H → Nat
  | .lit (.string bytes) => bytes.length + 1
  | .lit _ => 1
  | .nil => 1
  | .ptr d => uptoBulk d + 1
  | .slice elems spare => uptoBulkAll elems + uptoBulkAll spare + 1
  | .agg parts => uptoBulkAll parts + 1
  | .iface _ d => uptoBulk d + 1
  | .map entries => uptoBulkEntries entries + 1
  | .held _ => 1
def uptoBulkAll {H : Type} : List (DataW H) → Nat
  | [] => 0
  | d :: r => uptoBulk d + uptoBulkAll r
def uptoBulkEntries {H : Type} : List (Lit × DataW H) → Nat
  | [] => 0
  | x :: r => uptoBulkEntry x + uptoBulkEntries r
def uptoBulkEntry {H : Type} : Lit × DataW H → Nat
  | (.string bytes, d) => bytes.length + uptoBulk d + 1
  | (_, d) => uptoBulk d + 1
 end
def uptoSmall : (H : Type) → List (DataW H) → Bool := fun _ ds => decide (uptoBulkAll ds ≤ 1048576)
def OpenSpec.upto (s : _root_.Go.ChangeSpec) : _root_.Go.OpenSpec := { _root_.Go.OpenSpec.ofChange s with cond := some uptoSmall }

/-- 'whorllaw23.BijTurns', WHERE WHAT IT READS IS OF BULK AT MOST 1048576: true; the input reads as it did. -/
def bijTurnsUptoRow : OpenClaim := { program := "ytdfcnalkdlifiaa", sum := "e405827e796e7660c0f930044760759839ea4ab2dfec15a1f951623979a9eacd", func := "whorl/whorllaw23.BijTurns", spec := "bijTurns", unfollowed := true, recurses := true, apart := false, narrowed := true }
def BijTurnsUptoSaid : Prop := bijTurnsUptoRow.holds Try.pinned (OpenSpec.upto bijTurnsSpec)

/-- 'whorllaw23.BijLetters', WHERE WHAT IT READS IS OF BULK AT MOST 1048576: true; the input reads as it did. -/
def bijLettersUptoRow : OpenClaim := { program := "ytdfcnalkdlifiaa", sum := "e405827e796e7660c0f930044760759839ea4ab2dfec15a1f951623979a9eacd", func := "whorl/whorllaw23.BijLetters", spec := "bijLetters", unfollowed := true, recurses := true, apart := false, narrowed := true }
def BijLettersUptoSaid : Prop := bijLettersUptoRow.holds Try.pinned (OpenSpec.upto bijLettersSpec)

/-- 'whorllaw9.NecklaceTwice', WHERE WHAT IT READS IS OF BULK AT MOST 1048576: true; the input reads as it did. -/
def necklaceTwiceUptoRow : OpenClaim := { program := "ytdfcnalkdlifiaa", sum := "e405827e796e7660c0f930044760759839ea4ab2dfec15a1f951623979a9eacd", func := "whorl/whorllaw9.NecklaceTwice", spec := "necklaceTwice", inPlace := ["internal/bytealg.Compare", "internal/bytealg.MakeNoZero"], unfollowed := true, recurses := true, apart := false, narrowed := true }
def NecklaceTwiceUptoSaid : Prop := necklaceTwiceUptoRow.holds Try.pinned (OpenSpec.upto necklaceTwiceSpec)

/-- 'whorllaw9.NecklaceCanons', WHERE WHAT IT READS IS OF BULK AT MOST 1048576: true; the input reads as it did. -/
def necklaceCanonsUptoRow : OpenClaim := { program := "ytdfcnalkdlifiaa", sum := "e405827e796e7660c0f930044760759839ea4ab2dfec15a1f951623979a9eacd", func := "whorl/whorllaw9.NecklaceCanons", spec := "necklaceCanons", inPlace := ["internal/bytealg.Compare", "internal/bytealg.MakeNoZero"], unfollowed := true, recurses := true, apart := false, narrowed := true }
def NecklaceCanonsUptoSaid : Prop := necklaceCanonsUptoRow.holds Try.pinned (OpenSpec.upto necklaceCanonsSpec)

/-- 'whorllaw24.ExtRings', WHERE WHAT IT READS IS OF BULK AT MOST 1048576: true; the input reads as it did. -/
def extRingsUptoRow : OpenClaim := { program := "ytdfcnalkdlifiaa", sum := "e405827e796e7660c0f930044760759839ea4ab2dfec15a1f951623979a9eacd", func := "whorl/whorllaw24.ExtRings", spec := "extRings", inPlace := ["internal/bytealg.Compare"], unfollowed := true, recurses := true, apart := false, narrowed := true }
def ExtRingsUptoSaid : Prop := extRingsUptoRow.holds Try.pinned (OpenSpec.upto extRingsSpec)

/-- 'whorllaw23.BijBacks', WHERE WHAT IT READS IS OF BULK AT MOST 1048576: true; the input reads as it did. -/
def bijBacksUptoRow : OpenClaim := { program := "ytdfcnalkdlifiaa", sum := "e405827e796e7660c0f930044760759839ea4ab2dfec15a1f951623979a9eacd", func := "whorl/whorllaw23.BijBacks", spec := "bijBacks", unfollowed := true, recurses := true, apart := false, narrowed := true }
def BijBacksUptoSaid : Prop := bijBacksUptoRow.holds Try.pinned (OpenSpec.upto bijBacksSpec)

/-- 'whorllaw23.BijBoth', WHERE WHAT IT READS IS OF BULK AT MOST 1048576: true; the input reads as it did. -/
def bijBothUptoRow : OpenClaim := { program := "ytdfcnalkdlifiaa", sum := "e405827e796e7660c0f930044760759839ea4ab2dfec15a1f951623979a9eacd", func := "whorl/whorllaw23.BijBoth", spec := "bijBoth", unfollowed := true, recurses := true, apart := false, narrowed := true }
def BijBothUptoSaid : Prop := bijBothUptoRow.holds Try.pinned (OpenSpec.upto bijBothSpec)

/-- 'whorllaw23.BijRuns', WHERE WHAT IT READS IS OF BULK AT MOST 1048576: true; the input reads as it did. -/
def bijRunsUptoRow : OpenClaim := { program := "ytdfcnalkdlifiaa", sum := "e405827e796e7660c0f930044760759839ea4ab2dfec15a1f951623979a9eacd", func := "whorl/whorllaw23.BijRuns", spec := "bijRuns", unfollowed := true, recurses := true, apart := false, narrowed := true }
def BijRunsUptoSaid : Prop := bijRunsUptoRow.holds Try.pinned (OpenSpec.upto bijRunsSpec)

/-- 'whorllaw9.NecklaceSame', WHERE WHAT IT READS IS OF BULK AT MOST 1048576: true; the input reads as it did. -/
def necklaceSameUptoRow : OpenClaim := { program := "ytdfcnalkdlifiaa", sum := "e405827e796e7660c0f930044760759839ea4ab2dfec15a1f951623979a9eacd", func := "whorl/whorllaw9.NecklaceSame", spec := "necklaceSame", inPlace := ["internal/bytealg.Compare", "internal/bytealg.MakeNoZero"], unfollowed := true, recurses := true, apart := false, narrowed := true }
def NecklaceSameUptoSaid : Prop := necklaceSameUptoRow.holds Try.pinned (OpenSpec.upto necklaceSameSpec)

/-- 'whorllaw9.NecklaceParts', WHERE WHAT IT READS IS OF BULK AT MOST 1048576: true; the input reads as it did. -/
def necklacePartsUptoRow : OpenClaim := { program := "ytdfcnalkdlifiaa", sum := "e405827e796e7660c0f930044760759839ea4ab2dfec15a1f951623979a9eacd", func := "whorl/whorllaw9.NecklaceParts", spec := "necklaceParts", inPlace := ["internal/bytealg.Compare", "internal/bytealg.MakeNoZero"], unfollowed := true, recurses := true, apart := false, narrowed := true }
def NecklacePartsUptoSaid : Prop := necklacePartsUptoRow.holds Try.pinned (OpenSpec.upto necklacePartsSpec)

/-- 'whorllaw24.ExtMany', WHERE WHAT IT READS IS OF BULK AT MOST 1048576: true; the input reads as it did. -/
def extManyUptoRow : OpenClaim := { program := "ytdfcnalkdlifiaa", sum := "e405827e796e7660c0f930044760759839ea4ab2dfec15a1f951623979a9eacd", func := "whorl/whorllaw24.ExtMany", spec := "extMany", inPlace := ["internal/bytealg.Compare", "internal/bytealg.MakeNoZero"], unfollowed := true, recurses := true, apart := false, narrowed := true }
def ExtManyUptoSaid : Prop := extManyUptoRow.holds Try.pinned (OpenSpec.upto extManySpec)

end Rows
end Go.Proofs.Ytdfcnalkdlifiaa
