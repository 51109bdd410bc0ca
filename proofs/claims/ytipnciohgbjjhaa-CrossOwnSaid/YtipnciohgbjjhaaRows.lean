/-
  No cell of these rows narrows 'for every input' (looked for: loops, veiled, ifaces, maps, wideKeys, modest, calm, conditions, laid).
  DERIVED. THE GIVEN ROWS OF THIS SEAT. 3 by the template 'for every input the law returns true; each argument reads behind the call as it read before'; 0 by the template 'total and deterministic' (their statements: YtipnciohgbjjhaaTotals.lean).
  GIVEN WITH THE SEED: the statements are not yours to turn. If you find one false, say at which input.
  Laid BY PROGRAM, IN A SANDBOX (cutbox-rows.mjs): the forced cells as the released guide's own fill.sh prints them over the translation 4275d78e157b23a5… (all of the seat's roots in one cut). By AI agents, Wed Nov 11 2026. No macro, syntax, notation, axiom, sorry.
-/
import Derived.Test.YtipnciohgbjjhaaChecked
import GoSem.Claim
import GoSem.ClaimJoined
import GoSem.ClaimMapViews
import Derived.JoinedTies
import Derived.KernelRfl
namespace Go.Proofs.Ytipnciohgbjjhaa
/- THE CELL 'sum', in the pinned program and in every row, IS THE sha256 OF THE DUMP (.gsa) THAT YtipnciohgbjjhaaProg.lean LOADS. Nothing in Lean hashes anything: it is a label: what it is worth is what the hold of that sum in a sandbox is worth. -/
noncomputable def Try.pinned : Pinned := { name := "ytipnciohgbjjhaa", sum := "4275d78e157b23a5cc134a805e67dc5abd143febab8922ff5ed377a9b526a27c", checked := Try.checked }
namespace Rows
def none {H : Type} : Left H := { results := [], args := [] }

/-- 'whorllaw20.CrossSorts': WHATEVER THE INPUT: true; the input reads as it did. -/
def crossSortsSpec : ChangeSpec := { name := "crossSorts", fn := fun _ => fun
  | [d1, d2, d3] => { results := [.lit (.bool true)], args := [d1, d2, d3] }
  | _ => none }
def crossSortsRow : OpenClaim := { program := "ytipnciohgbjjhaa", sum := "4275d78e157b23a5cc134a805e67dc5abd143febab8922ff5ed377a9b526a27c", func := "whorl/whorllaw20.CrossSorts", spec := "crossSorts", inPlace := ["sync/atomic.AddInt64", "sync/atomic.LoadInt64"], unfollowed := true, recurses := true, apart := false }
def CrossSortsSaid : Prop := crossSortsRow.holds Try.pinned (OpenSpec.ofChange crossSortsSpec)

/-- ITS FALSE NEIGHBOUR: 'it returns false'. Refute it at one input. -/
def crossSortsWrong : ChangeSpec := { name := "crossSorts", fn := fun _ => fun
  | [d1, d2, d3] => { results := [.lit (.bool false)], args := [d1, d2, d3] }
  | _ => none }
def CrossSortsWrongFalsely : Prop := crossSortsRow.holds Try.pinned (OpenSpec.ofChange crossSortsWrong)

/-- 'whorllaw20.CrossLong': WHATEVER THE INPUT: true; the input reads as it did. -/
def crossLongSpec : ChangeSpec := { name := "crossLong", fn := fun _ => fun
  | [d1, d2] => { results := [.lit (.bool true)], args := [d1, d2] }
  | _ => none }
def crossLongRow : OpenClaim := { program := "ytipnciohgbjjhaa", sum := "4275d78e157b23a5cc134a805e67dc5abd143febab8922ff5ed377a9b526a27c", func := "whorl/whorllaw20.CrossLong", spec := "crossLong", inPlace := ["sync/atomic.AddInt64", "sync/atomic.LoadInt64"], unfollowed := true, recurses := true, apart := false }
def CrossLongSaid : Prop := crossLongRow.holds Try.pinned (OpenSpec.ofChange crossLongSpec)

/-- ITS FALSE NEIGHBOUR: 'it returns false'. Refute it at one input. -/
def crossLongWrong : ChangeSpec := { name := "crossLong", fn := fun _ => fun
  | [d1, d2] => { results := [.lit (.bool false)], args := [d1, d2] }
  | _ => none }
def CrossLongWrongFalsely : Prop := crossLongRow.holds Try.pinned (OpenSpec.ofChange crossLongWrong)

/-- 'whorllaw20.CrossOwn': WHATEVER THE INPUT: true; the input reads as it did. -/
def crossOwnSpec : ChangeSpec := { name := "crossOwn", fn := fun _ => fun
  | [d] => { results := [.lit (.bool true)], args := [d] }
  | _ => none }
def crossOwnRow : OpenClaim := { program := "ytipnciohgbjjhaa", sum := "4275d78e157b23a5cc134a805e67dc5abd143febab8922ff5ed377a9b526a27c", func := "whorl/whorllaw20.CrossOwn", spec := "crossOwn", inPlace := ["sync/atomic.AddInt64", "sync/atomic.LoadInt64"], unfollowed := true, recurses := true, apart := false }
def CrossOwnSaid : Prop := crossOwnRow.holds Try.pinned (OpenSpec.ofChange crossOwnSpec)

/-- ITS FALSE NEIGHBOUR: 'it returns false'. Refute it at one input. -/
def crossOwnWrong : ChangeSpec := { name := "crossOwn", fn := fun _ => fun
  | [d] => { results := [.lit (.bool false)], args := [d] }
  | _ => none }
def CrossOwnWrongFalsely : Prop := crossOwnRow.holds Try.pinned (OpenSpec.ofChange crossOwnWrong)

/- THE SECOND FORM. 'bulk': how many values and letters a reading holds, each counted each time it is reached (what is shared counts as often as it is met; a slice's spare places count too). A statement '..UptoSaid' is the law's where the arguments, and the package variables that the reading takes, are together of bulk at most 1048576: NARROWER than '..Said'. Prove '..Said' where nothing that the law and all that it calls make is longer than what came in: it says more and counts as full. Else prove '..UptoSaid'. A law counts once. -/
mutual
def uptoBulk {H : Type} : DataW H → Nat
  | .lit (.string bytes) => bytes.length + 1
  | .lit _ => 1
  | .nil => 1
  | .ptr d => uptoBulk d + 1
  | .slice elems spare => uptoBulkAll elems + uptoBulkAll spare + 1
  | .agg parts => uptoBulkAll parts + 1
  | .iface _ d => uptoBulk d + 1
  | .map entries => uptoBulkEntries entries + 1
  | .held _ => 1
def uptoBulkAll {H : Type} : List (DataW H) → Nat
  | [] => 0
  | d :: r => uptoBulk d + uptoBulkAll r
def uptoBulkEntries {H : Type} : List (Lit × DataW H) → Nat
  | [] => 0
  | x :: r => uptoBulkEntry x + uptoBulkEntries r
def uptoBulkEntry {H : Type} : Lit × DataW H → Nat
  | (.string bytes, d) => bytes.length + uptoBulk d + 1
  | (_, d) => uptoBulk d + 1
 end
def uptoSmall : (H : Type) → List (DataW H) → Bool := fun _ ds => decide (uptoBulkAll ds ≤ 1048576)
def OpenSpec.upto (s : _root_.Go.ChangeSpec) : _root_.Go.OpenSpec := { _root_.Go.OpenSpec.ofChange s with cond := some uptoSmall }

/-- 'whorllaw20.CrossSorts', WHERE WHAT IT READS IS OF BULK AT MOST 1048576: true; the input reads as it did. -/
def crossSortsUptoRow : OpenClaim := { program := "ytipnciohgbjjhaa", sum := "4275d78e157b23a5cc134a805e67dc5abd143febab8922ff5ed377a9b526a27c", func := "whorl/whorllaw20.CrossSorts", spec := "crossSorts", inPlace := ["sync/atomic.AddInt64", "sync/atomic.LoadInt64"], unfollowed := true, recurses := true, apart := false, narrowed := true }
def CrossSortsUptoSaid : Prop := crossSortsUptoRow.holds Try.pinned (OpenSpec.upto crossSortsSpec)

/-- 'whorllaw20.CrossLong', WHERE WHAT IT READS IS OF BULK AT MOST 1048576: true; the input reads as it did. -/
def crossLongUptoRow : OpenClaim := { program := "ytipnciohgbjjhaa", sum := "4275d78e157b23a5cc134a805e67dc5abd143febab8922ff5ed377a9b526a27c", func := "whorl/whorllaw20.CrossLong", spec := "crossLong", inPlace := ["sync/atomic.AddInt64", "sync/atomic.LoadInt64"], unfollowed := true, recurses := true, apart := false, narrowed := true }
def CrossLongUptoSaid : Prop := crossLongUptoRow.holds Try.pinned (OpenSpec.upto crossLongSpec)

/-- 'whorllaw20.CrossOwn', WHERE WHAT IT READS IS OF BULK AT MOST 1048576: true; the input reads as it did. -/
def crossOwnUptoRow : OpenClaim := { program := "ytipnciohgbjjhaa", sum := "4275d78e157b23a5cc134a805e67dc5abd143febab8922ff5ed377a9b526a27c", func := "whorl/whorllaw20.CrossOwn", spec := "crossOwn", inPlace := ["sync/atomic.AddInt64", "sync/atomic.LoadInt64"], unfollowed := true, recurses := true, apart := false, narrowed := true }
def CrossOwnUptoSaid : Prop := crossOwnUptoRow.holds Try.pinned (OpenSpec.upto crossOwnSpec)

end Rows
end Go.Proofs.Ytipnciohgbjjhaa
