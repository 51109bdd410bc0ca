/-
  No cell of these rows narrows 'for every input' (looked for: loops, veiled, ifaces, maps, wideKeys, modest, calm, conditions, laid).
  DERIVED. THE GIVEN ROWS OF THIS SEAT. 4 by the template 'for every input the law returns true; each argument reads behind the call as it read before'; 0 by the template 'total and deterministic' (their statements: YtdfcnalkdlifiaaGreatTotals.lean).
  GIVEN WITH THE SEED: the statements are not yours to turn. If you find one false, say at which input.
  Laid BY PROGRAM, IN A SANDBOX (cutbox-rows.mjs): the forced cells as the released guide's own fill.sh prints them over the translation de2f6c07024de1d0… (all of the seat's roots in one cut). By AI agents, Wed Nov 11 2026. No macro, syntax, notation, axiom, sorry.
-/
import Derived.Test.YtdfcnalkdlifiaaGreatChecked
import GoSem.Claim
import GoSem.ClaimJoined
import GoSem.ClaimMapViews
import Derived.JoinedTies
import Derived.KernelRfl
namespace Go.Proofs.YtdfcnalkdlifiaaGreat
/- THE CELL 'sum', in the pinned program and in every row, IS THE sha256 OF THE DUMP (.gsa) THAT YtdfcnalkdlifiaaGreatProg.lean LOADS. Nothing in Lean hashes anything: it is a label: what it is worth is what the hold of that sum in a sandbox is worth. -/
noncomputable def Tryz.pinned : Pinned := { name := "ytdfcnalkdlifiaagreat", sum := "de2f6c07024de1d084c7f1203497bd4bbb779cc3ac63ac90ebede7c3d9d2fa94", checked := Tryz.checked }
namespace Rows
def none {H : Type} : Left H := { results := [], args := [] }

/-- 'whorltop.TopWords': WHATEVER THE INPUT: true; the input reads as it did. -/
def topWordsSpec : ChangeSpec := { name := "topWords", fn := fun _ => fun
  | [d] => { results := [.lit (.bool true)], args := [d] }
  | _ => none }
def topWordsRow : OpenClaim := { program := "ytdfcnalkdlifiaagreat", sum := "de2f6c07024de1d084c7f1203497bd4bbb779cc3ac63ac90ebede7c3d9d2fa94", func := "whorl/whorltop.TopWords", spec := "topWords", inPlace := ["internal/bytealg.Compare", "internal/bytealg.MakeNoZero", "sync/atomic.AddInt64"], unfollowed := true, recurses := true, apart := false }
def TopWordsSaid : Prop := topWordsRow.holds Tryz.pinned (OpenSpec.ofChange topWordsSpec)

/-- ITS FALSE NEIGHBOUR: 'it returns false'. Refute it at one input. -/
def topWordsWrong : ChangeSpec := { name := "topWords", fn := fun _ => fun
  | [d] => { results := [.lit (.bool false)], args := [d] }
  | _ => none }
def TopWordsWrongFalsely : Prop := topWordsRow.holds Tryz.pinned (OpenSpec.ofChange topWordsWrong)

/-- 'whorllaw24.ExtTurns': WHATEVER THE INPUT: true; the input reads as it did. -/
def extTurnsSpec : ChangeSpec := { name := "extTurns", fn := fun _ => fun
  | [d] => { results := [.lit (.bool true)], args := [d] }
  | _ => none }
def extTurnsRow : OpenClaim := { program := "ytdfcnalkdlifiaagreat", sum := "de2f6c07024de1d084c7f1203497bd4bbb779cc3ac63ac90ebede7c3d9d2fa94", func := "whorl/whorllaw24.ExtTurns", spec := "extTurns", inPlace := ["internal/bytealg.Compare", "internal/bytealg.MakeNoZero"], unfollowed := true, recurses := true, apart := false }
def ExtTurnsSaid : Prop := extTurnsRow.holds Tryz.pinned (OpenSpec.ofChange extTurnsSpec)

/-- ITS FALSE NEIGHBOUR: 'it returns false'. Refute it at one input. -/
def extTurnsWrong : ChangeSpec := { name := "extTurns", fn := fun _ => fun
  | [d] => { results := [.lit (.bool false)], args := [d] }
  | _ => none }
def ExtTurnsWrongFalsely : Prop := extTurnsRow.holds Tryz.pinned (OpenSpec.ofChange extTurnsWrong)

/-- 'whorllaw24.ExtBacks': WHATEVER THE INPUT: true; the input reads as it did. -/
def extBacksSpec : ChangeSpec := { name := "extBacks", fn := fun _ => fun
  | [d1, d2] => { results := [.lit (.bool true)], args := [d1, d2] }
  | _ => none }
def extBacksRow : OpenClaim := { program := "ytdfcnalkdlifiaagreat", sum := "de2f6c07024de1d084c7f1203497bd4bbb779cc3ac63ac90ebede7c3d9d2fa94", func := "whorl/whorllaw24.ExtBacks", spec := "extBacks", inPlace := ["internal/bytealg.Compare", "internal/bytealg.MakeNoZero"], unfollowed := true, recurses := true, apart := false }
def ExtBacksSaid : Prop := extBacksRow.holds Tryz.pinned (OpenSpec.ofChange extBacksSpec)

/-- ITS FALSE NEIGHBOUR: 'it returns false'. Refute it at one input. -/
def extBacksWrong : ChangeSpec := { name := "extBacks", fn := fun _ => fun
  | [d1, d2] => { results := [.lit (.bool false)], args := [d1, d2] }
  | _ => none }
def ExtBacksWrongFalsely : Prop := extBacksRow.holds Tryz.pinned (OpenSpec.ofChange extBacksWrong)

/-- 'whorllaw24.ExtTimes': WHATEVER THE INPUT: true; the input reads as it did. -/
def extTimesSpec : ChangeSpec := { name := "extTimes", fn := fun _ => fun
  | [d1, d2] => { results := [.lit (.bool true)], args := [d1, d2] }
  | _ => none }
def extTimesRow : OpenClaim := { program := "ytdfcnalkdlifiaagreat", sum := "de2f6c07024de1d084c7f1203497bd4bbb779cc3ac63ac90ebede7c3d9d2fa94", func := "whorl/whorllaw24.ExtTimes", spec := "extTimes", inPlace := ["internal/bytealg.Compare", "internal/bytealg.MakeNoZero"], unfollowed := true, recurses := true, apart := false }
def ExtTimesSaid : Prop := extTimesRow.holds Tryz.pinned (OpenSpec.ofChange extTimesSpec)

/-- ITS FALSE NEIGHBOUR: 'it returns false'. Refute it at one input. -/
def extTimesWrong : ChangeSpec := { name := "extTimes", fn := fun _ => fun
  | [d1, d2] => { results := [.lit (.bool false)], args := [d1, d2] }
  | _ => none }
def ExtTimesWrongFalsely : Prop := extTimesRow.holds Tryz.pinned (OpenSpec.ofChange extTimesWrong)

/- THE SECOND FORM. 'bulk': how many values and letters a reading holds, each counted each time it is reached (what is shared counts as often as it is met; a slice's spare places count too). A statement '..UptoSaid' is the law's where the arguments, and the package variables that the reading takes, are together of bulk at most 1048576: NARROWER than '..Said'. Prove '..Said' where nothing that the law and all that it calls make is longer than what came in: it says more and counts as full. Else prove '..UptoSaid'. A law counts once. -/
mutual
def uptoBulk {H : Type} : DataW H → Nat
  | .lit (.string bytes) => bytes.length + 1
  | .lit _ => 1
  | .nil => 1
  | .ptr d => uptoBulk d + 1
  | .slice elems spare => uptoBulkAll elems + uptoBulkAll spare + 1
  | .agg parts => uptoBulkAll parts + 1
  | .iface _ d => uptoBulk d + 1
  | .map entries => uptoBulkEntries entries + 1
  | .held _ => 1
def uptoBulkAll {H : Type} : List (DataW H) → Nat
  | [] => 0
  | d :: r => uptoBulk d + uptoBulkAll r
def uptoBulkEntries {H : Type} : List (Lit × DataW H) → Nat
  | [] => 0
  | x :: r => uptoBulkEntry x + uptoBulkEntries r
def uptoBulkEntry {H : Type} : Lit × DataW H → Nat
  | (.string bytes, d) => bytes.length + uptoBulk d + 1
  | (_, d) => uptoBulk d + 1
 end
def uptoSmall : (H : Type) → List (DataW H) → Bool := fun _ ds => decide (uptoBulkAll ds ≤ 1048576)
def OpenSpec.upto (s : _root_.Go.ChangeSpec) : _root_.Go.OpenSpec := { _root_.Go.OpenSpec.ofChange s with cond := some uptoSmall }

/-- 'whorltop.TopWords', WHERE WHAT IT READS IS OF BULK AT MOST 1048576: true; the input reads as it did. -/
def topWordsUptoRow : OpenClaim := { program := "ytdfcnalkdlifiaagreat", sum := "de2f6c07024de1d084c7f1203497bd4bbb779cc3ac63ac90ebede7c3d9d2fa94", func := "whorl/whorltop.TopWords", spec := "topWords", inPlace := ["internal/bytealg.Compare", "internal/bytealg.MakeNoZero", "sync/atomic.AddInt64"], unfollowed := true, recurses := true, apart := false, narrowed := true }
def TopWordsUptoSaid : Prop := topWordsUptoRow.holds Tryz.pinned (OpenSpec.upto topWordsSpec)

/-- 'whorllaw24.ExtTurns', WHERE WHAT IT READS IS OF BULK AT MOST 1048576: true; the input reads as it did. -/
def extTurnsUptoRow : OpenClaim := { program := "ytdfcnalkdlifiaagreat", sum := "de2f6c07024de1d084c7f1203497bd4bbb779cc3ac63ac90ebede7c3d9d2fa94", func := "whorl/whorllaw24.ExtTurns", spec := "extTurns", inPlace := ["internal/bytealg.Compare", "internal/bytealg.MakeNoZero"], unfollowed := true, recurses := true, apart := false, narrowed := true }
def ExtTurnsUptoSaid : Prop := extTurnsUptoRow.holds Tryz.pinned (OpenSpec.upto extTurnsSpec)

/-- 'whorllaw24.ExtBacks', WHERE WHAT IT READS IS OF BULK AT MOST 1048576: true; the input reads as it did. -/
def extBacksUptoRow : OpenClaim := { program := "ytdfcnalkdlifiaagreat", sum := "de2f6c07024de1d084c7f1203497bd4bbb779cc3ac63ac90ebede7c3d9d2fa94", func := "whorl/whorllaw24.ExtBacks", spec := "extBacks", inPlace := ["internal/bytealg.Compare", "internal/bytealg.MakeNoZero"], unfollowed := true, recurses := true, apart := false, narrowed := true }
def ExtBacksUptoSaid : Prop := extBacksUptoRow.holds Tryz.pinned (OpenSpec.upto extBacksSpec)

/-- 'whorllaw24.ExtTimes', WHERE WHAT IT READS IS OF BULK AT MOST 1048576: true; the input reads as it did. -/
def extTimesUptoRow : OpenClaim := { program := "ytdfcnalkdlifiaagreat", sum := "de2f6c07024de1d084c7f1203497bd4bbb779cc3ac63ac90ebede7c3d9d2fa94", func := "whorl/whorllaw24.ExtTimes", spec := "extTimes", inPlace := ["internal/bytealg.Compare", "internal/bytealg.MakeNoZero"], unfollowed := true, recurses := true, apart := false, narrowed := true }
def ExtTimesUptoSaid : Prop := extTimesUptoRow.holds Tryz.pinned (OpenSpec.upto extTimesSpec)

end Rows
end Go.Proofs.YtdfcnalkdlifiaaGreat
