/-
  No cell of these rows narrows 'for every input' (looked for: loops, veiled, ifaces, maps, wideKeys, modest, calm, conditions, laid).
  DERIVED. THE GIVEN ROWS OF THIS SEAT. 8 by the template 'for every input the law returns true; each argument reads behind the call as it read before'; 0 by the template 'total and deterministic' (their statements: YtcealppaeflkfaaTotals.lean).
  GIVEN WITH THE SEED: the statements are not yours to turn. If you find one false, say at which input.
  Laid BY PROGRAM, IN A SANDBOX (cutbox-rows.mjs): the forced cells as the released guide's own fill.sh prints them over the translation d6ff99bf2ffa7507… (all of the seat's roots in one cut). By AI agents, Wed Nov 11 2026. No macro, syntax, notation, axiom, sorry.
-/
import Derived.Test.YtcealppaeflkfaaChecked
import GoSem.Claim
import GoSem.ClaimJoined
import GoSem.ClaimMapViews
import Derived.JoinedTies
import Derived.KernelRfl
namespace Go.Proofs.Ytcealppaeflkfaa
/- THE CELL 'sum', in the pinned program and in every row, IS THE sha256 OF THE DUMP (.gsa) THAT YtcealppaeflkfaaProg.lean LOADS. Nothing in Lean hashes anything: it is a label: what it is worth is what the hold of that sum in a sandbox is worth. -/
noncomputable def Try.pinned : Pinned := { name := "ytcealppaeflkfaa", sum := "d6ff99bf2ffa7507b9bae63414f7b5329012d264ee3eda73e43c83a872d959d9", checked := Try.checked }
namespace Rows
def none {H : Type} : Left H := { results := [], args := [] }

/-- 'trunniontop.TopNames': WHATEVER THE INPUT: true; the input reads as it did. -/
def topNamesSpec : ChangeSpec := { name := "topNames", fn := fun _ => fun
  | [] => { results := [.lit (.bool true)], args := [] }
  | _ => none }
def topNamesRow : OpenClaim := { program := "ytcealppaeflkfaa", sum := "d6ff99bf2ffa7507b9bae63414f7b5329012d264ee3eda73e43c83a872d959d9", func := "trunnion/trunniontop.TopNames", spec := "topNames", apart := false }
def TopNamesSaid : Prop := topNamesRow.holds Try.pinned (OpenSpec.ofChange topNamesSpec)

/-- ITS FALSE NEIGHBOUR: 'it returns false'. Refute it at one input. -/
def topNamesWrong : ChangeSpec := { name := "topNames", fn := fun _ => fun
  | [] => { results := [.lit (.bool false)], args := [] }
  | _ => none }
def TopNamesWrongFalsely : Prop := topNamesRow.holds Try.pinned (OpenSpec.ofChange topNamesWrong)

/-- 'trunnionlaw8.IrqPending': WHATEVER THE INPUT: true; the input reads as it did. -/
def irqPendingSpec : ChangeSpec := { name := "irqPending", fn := fun _ => fun
  | [d1, d2, d3, d4] => { results := [.lit (.bool true)], args := [d1, d2, d3, d4] }
  | _ => none }
def irqPendingRow : OpenClaim := { program := "ytcealppaeflkfaa", sum := "d6ff99bf2ffa7507b9bae63414f7b5329012d264ee3eda73e43c83a872d959d9", func := "trunnion/trunnionlaw8.IrqPending", spec := "irqPending", apart := false }
def IrqPendingSaid : Prop := irqPendingRow.holds Try.pinned (OpenSpec.ofChange irqPendingSpec)

/-- ITS FALSE NEIGHBOUR: 'it returns false'. Refute it at one input. -/
def irqPendingWrong : ChangeSpec := { name := "irqPending", fn := fun _ => fun
  | [d1, d2, d3, d4] => { results := [.lit (.bool false)], args := [d1, d2, d3, d4] }
  | _ => none }
def IrqPendingWrongFalsely : Prop := irqPendingRow.holds Try.pinned (OpenSpec.ofChange irqPendingWrong)

/-- 'trunnionlaw8.IrqTakes': WHATEVER THE INPUT: true; the input reads as it did. -/
def irqTakesSpec : ChangeSpec := { name := "irqTakes", fn := fun _ => fun
  | [d1, d2, d3] => { results := [.lit (.bool true)], args := [d1, d2, d3] }
  | _ => none }
def irqTakesRow : OpenClaim := { program := "ytcealppaeflkfaa", sum := "d6ff99bf2ffa7507b9bae63414f7b5329012d264ee3eda73e43c83a872d959d9", func := "trunnion/trunnionlaw8.IrqTakes", spec := "irqTakes", apart := false }
def IrqTakesSaid : Prop := irqTakesRow.holds Try.pinned (OpenSpec.ofChange irqTakesSpec)

/-- ITS FALSE NEIGHBOUR: 'it returns false'. Refute it at one input. -/
def irqTakesWrong : ChangeSpec := { name := "irqTakes", fn := fun _ => fun
  | [d1, d2, d3] => { results := [.lit (.bool false)], args := [d1, d2, d3] }
  | _ => none }
def IrqTakesWrongFalsely : Prop := irqTakesRow.holds Try.pinned (OpenSpec.ofChange irqTakesWrong)

/-- 'trunnionlaw8.IrqLeast': WHATEVER THE INPUT: true; the input reads as it did. -/
def irqLeastSpec : ChangeSpec := { name := "irqLeast", fn := fun _ => fun
  | [d1, d2] => { results := [.lit (.bool true)], args := [d1, d2] }
  | _ => none }
def irqLeastRow : OpenClaim := { program := "ytcealppaeflkfaa", sum := "d6ff99bf2ffa7507b9bae63414f7b5329012d264ee3eda73e43c83a872d959d9", func := "trunnion/trunnionlaw8.IrqLeast", spec := "irqLeast", apart := false }
def IrqLeastSaid : Prop := irqLeastRow.holds Try.pinned (OpenSpec.ofChange irqLeastSpec)

/-- ITS FALSE NEIGHBOUR: 'it returns false'. Refute it at one input. -/
def irqLeastWrong : ChangeSpec := { name := "irqLeast", fn := fun _ => fun
  | [d1, d2] => { results := [.lit (.bool false)], args := [d1, d2] }
  | _ => none }
def IrqLeastWrongFalsely : Prop := irqLeastRow.holds Try.pinned (OpenSpec.ofChange irqLeastWrong)

/-- 'trunnionlaw3.CsrTurns': WHATEVER THE INPUT: true; the input reads as it did. -/
def csrTurnsSpec : ChangeSpec := { name := "csrTurns", fn := fun _ => fun
  | [d] => { results := [.lit (.bool true)], args := [d] }
  | _ => none }
def csrTurnsRow : OpenClaim := { program := "ytcealppaeflkfaa", sum := "d6ff99bf2ffa7507b9bae63414f7b5329012d264ee3eda73e43c83a872d959d9", func := "trunnion/trunnionlaw3.CsrTurns", spec := "csrTurns", apart := false }
def CsrTurnsSaid : Prop := csrTurnsRow.holds Try.pinned (OpenSpec.ofChange csrTurnsSpec)

/-- ITS FALSE NEIGHBOUR: 'it returns false'. Refute it at one input. -/
def csrTurnsWrong : ChangeSpec := { name := "csrTurns", fn := fun _ => fun
  | [d] => { results := [.lit (.bool false)], args := [d] }
  | _ => none }
def CsrTurnsWrongFalsely : Prop := csrTurnsRow.holds Try.pinned (OpenSpec.ofChange csrTurnsWrong)

/-- 'trunnionlaw3.CsrWrites': WHATEVER THE INPUT: true; the input reads as it did. -/
def csrWritesSpec : ChangeSpec := { name := "csrWrites", fn := fun _ => fun
  | [d1, d2, d3] => { results := [.lit (.bool true)], args := [d1, d2, d3] }
  | _ => none }
def csrWritesRow : OpenClaim := { program := "ytcealppaeflkfaa", sum := "d6ff99bf2ffa7507b9bae63414f7b5329012d264ee3eda73e43c83a872d959d9", func := "trunnion/trunnionlaw3.CsrWrites", spec := "csrWrites", apart := false }
def CsrWritesSaid : Prop := csrWritesRow.holds Try.pinned (OpenSpec.ofChange csrWritesSpec)

/-- ITS FALSE NEIGHBOUR: 'it returns false'. Refute it at one input. -/
def csrWritesWrong : ChangeSpec := { name := "csrWrites", fn := fun _ => fun
  | [d1, d2, d3] => { results := [.lit (.bool false)], args := [d1, d2, d3] }
  | _ => none }
def CsrWritesWrongFalsely : Prop := csrWritesRow.holds Try.pinned (OpenSpec.ofChange csrWritesWrong)

/-- 'trunnionlaw3.CsrKeeps': WHATEVER THE INPUT: true; the input reads as it did. -/
def csrKeepsSpec : ChangeSpec := { name := "csrKeeps", fn := fun _ => fun
  | [d1, d2, d3] => { results := [.lit (.bool true)], args := [d1, d2, d3] }
  | _ => none }
def csrKeepsRow : OpenClaim := { program := "ytcealppaeflkfaa", sum := "d6ff99bf2ffa7507b9bae63414f7b5329012d264ee3eda73e43c83a872d959d9", func := "trunnion/trunnionlaw3.CsrKeeps", spec := "csrKeeps", apart := false }
def CsrKeepsSaid : Prop := csrKeepsRow.holds Try.pinned (OpenSpec.ofChange csrKeepsSpec)

/-- ITS FALSE NEIGHBOUR: 'it returns false'. Refute it at one input. -/
def csrKeepsWrong : ChangeSpec := { name := "csrKeeps", fn := fun _ => fun
  | [d1, d2, d3] => { results := [.lit (.bool false)], args := [d1, d2, d3] }
  | _ => none }
def CsrKeepsWrongFalsely : Prop := csrKeepsRow.holds Try.pinned (OpenSpec.ofChange csrKeepsWrong)

/-- 'trunnionlaw3.CsrFixed': WHATEVER THE INPUT: true; the input reads as it did. -/
def csrFixedSpec : ChangeSpec := { name := "csrFixed", fn := fun _ => fun
  | [d1, d2] => { results := [.lit (.bool true)], args := [d1, d2] }
  | _ => none }
def csrFixedRow : OpenClaim := { program := "ytcealppaeflkfaa", sum := "d6ff99bf2ffa7507b9bae63414f7b5329012d264ee3eda73e43c83a872d959d9", func := "trunnion/trunnionlaw3.CsrFixed", spec := "csrFixed", apart := false }
def CsrFixedSaid : Prop := csrFixedRow.holds Try.pinned (OpenSpec.ofChange csrFixedSpec)

/-- ITS FALSE NEIGHBOUR: 'it returns false'. Refute it at one input. -/
def csrFixedWrong : ChangeSpec := { name := "csrFixed", fn := fun _ => fun
  | [d1, d2] => { results := [.lit (.bool false)], args := [d1, d2] }
  | _ => none }
def CsrFixedWrongFalsely : Prop := csrFixedRow.holds Try.pinned (OpenSpec.ofChange csrFixedWrong)

/- THE SECOND FORM. 'bulk': how many values and letters a reading holds, each counted each time it is reached (what is shared counts as often as it is met; a slice's spare places count too). A statement '..UptoSaid' is the law's where the arguments, and the package variables that the reading takes, are together of bulk at most 1048576: NARROWER than '..Said'. Prove '..Said' where nothing that the law and all that it calls make is longer than what came in: it says more and counts as full. Else prove '..UptoSaid'. A law counts once. -/
mutual
def uptoBulk {H : Type} : DataW H → Nat
  | .lit (.string bytes) => bytes.length + 1
  | .lit _ => 1
  | .nil => 1
  | .ptr d => uptoBulk d + 1
  | .slice elems spare => uptoBulkAll elems + uptoBulkAll spare + 1
  | .agg parts => uptoBulkAll parts + 1
  | .iface _ d => uptoBulk d + 1
  | .map entries => uptoBulkEntries entries + 1
  | .held _ => 1
def uptoBulkAll {H : Type} : List (DataW H) → Nat
  | [] => 0
  | d :: r => uptoBulk d + uptoBulkAll r
def uptoBulkEntries {H : Type} : List (Lit × DataW H) → Nat
  | [] => 0
  | x :: r => uptoBulkEntry x + uptoBulkEntries r
def uptoBulkEntry {H : Type} : Lit × DataW H → Nat
  | (.string bytes, d) => bytes.length + uptoBulk d + 1
  | (_, d) => uptoBulk d + 1
 end
def uptoSmall : (H : Type) → List (DataW H) → Bool := fun _ ds => decide (uptoBulkAll ds ≤ 1048576)
def OpenSpec.upto (s : _root_.Go.ChangeSpec) : _root_.Go.OpenSpec := { _root_.Go.OpenSpec.ofChange s with cond := some uptoSmall }

/-- 'trunniontop.TopNames', WHERE WHAT IT READS IS OF BULK AT MOST 1048576: true; the input reads as it did. -/
def topNamesUptoRow : OpenClaim := { program := "ytcealppaeflkfaa", sum := "d6ff99bf2ffa7507b9bae63414f7b5329012d264ee3eda73e43c83a872d959d9", func := "trunnion/trunniontop.TopNames", spec := "topNames", apart := false, narrowed := true }
def TopNamesUptoSaid : Prop := topNamesUptoRow.holds Try.pinned (OpenSpec.upto topNamesSpec)

/-- 'trunnionlaw8.IrqPending', WHERE WHAT IT READS IS OF BULK AT MOST 1048576: true; the input reads as it did. -/
def irqPendingUptoRow : OpenClaim := { program := "ytcealppaeflkfaa", sum := "d6ff99bf2ffa7507b9bae63414f7b5329012d264ee3eda73e43c83a872d959d9", func := "trunnion/trunnionlaw8.IrqPending", spec := "irqPending", apart := false, narrowed := true }
def IrqPendingUptoSaid : Prop := irqPendingUptoRow.holds Try.pinned (OpenSpec.upto irqPendingSpec)

/-- 'trunnionlaw8.IrqTakes', WHERE WHAT IT READS IS OF BULK AT MOST 1048576: true; the input reads as it did. -/
def irqTakesUptoRow : OpenClaim := { program := "ytcealppaeflkfaa", sum := "d6ff99bf2ffa7507b9bae63414f7b5329012d264ee3eda73e43c83a872d959d9", func := "trunnion/trunnionlaw8.IrqTakes", spec := "irqTakes", apart := false, narrowed := true }
def IrqTakesUptoSaid : Prop := irqTakesUptoRow.holds Try.pinned (OpenSpec.upto irqTakesSpec)

/-- 'trunnionlaw8.IrqLeast', WHERE WHAT IT READS IS OF BULK AT MOST 1048576: true; the input reads as it did. -/
def irqLeastUptoRow : OpenClaim := { program := "ytcealppaeflkfaa", sum := "d6ff99bf2ffa7507b9bae63414f7b5329012d264ee3eda73e43c83a872d959d9", func := "trunnion/trunnionlaw8.IrqLeast", spec := "irqLeast", apart := false, narrowed := true }
def IrqLeastUptoSaid : Prop := irqLeastUptoRow.holds Try.pinned (OpenSpec.upto irqLeastSpec)

/-- 'trunnionlaw3.CsrTurns', WHERE WHAT IT READS IS OF BULK AT MOST 1048576: true; the input reads as it did. -/
def csrTurnsUptoRow : OpenClaim := { program := "ytcealppaeflkfaa", sum := "d6ff99bf2ffa7507b9bae63414f7b5329012d264ee3eda73e43c83a872d959d9", func := "trunnion/trunnionlaw3.CsrTurns", spec := "csrTurns", apart := false, narrowed := true }
def CsrTurnsUptoSaid : Prop := csrTurnsUptoRow.holds Try.pinned (OpenSpec.upto csrTurnsSpec)

/-- 'trunnionlaw3.CsrWrites', WHERE WHAT IT READS IS OF BULK AT MOST 1048576: true; the input reads as it did. -/
def csrWritesUptoRow : OpenClaim := { program := "ytcealppaeflkfaa", sum := "d6ff99bf2ffa7507b9bae63414f7b5329012d264ee3eda73e43c83a872d959d9", func := "trunnion/trunnionlaw3.CsrWrites", spec := "csrWrites", apart := false, narrowed := true }
def CsrWritesUptoSaid : Prop := csrWritesUptoRow.holds Try.pinned (OpenSpec.upto csrWritesSpec)

/-- 'trunnionlaw3.CsrKeeps', WHERE WHAT IT READS IS OF BULK AT MOST 1048576: true; the input reads as it did. -/
def csrKeepsUptoRow : OpenClaim := { program := "ytcealppaeflkfaa", sum := "d6ff99bf2ffa7507b9bae63414f7b5329012d264ee3eda73e43c83a872d959d9", func := "trunnion/trunnionlaw3.CsrKeeps", spec := "csrKeeps", apart := false, narrowed := true }
def CsrKeepsUptoSaid : Prop := csrKeepsUptoRow.holds Try.pinned (OpenSpec.upto csrKeepsSpec)

/-- 'trunnionlaw3.CsrFixed', WHERE WHAT IT READS IS OF BULK AT MOST 1048576: true; the input reads as it did. -/
def csrFixedUptoRow : OpenClaim := { program := "ytcealppaeflkfaa", sum := "d6ff99bf2ffa7507b9bae63414f7b5329012d264ee3eda73e43c83a872d959d9", func := "trunnion/trunnionlaw3.CsrFixed", spec := "csrFixed", apart := false, narrowed := true }
def CsrFixedUptoSaid : Prop := csrFixedUptoRow.holds Try.pinned (OpenSpec.upto csrFixedSpec)

end Rows
end Go.Proofs.Ytcealppaeflkfaa
