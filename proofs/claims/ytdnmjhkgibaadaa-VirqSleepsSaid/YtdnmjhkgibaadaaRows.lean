/-
  No cell of these rows narrows 'for every input' (looked for: loops, veiled, ifaces, maps, wideKeys, modest, calm, conditions, laid).
  DERIVED. THE GIVEN ROWS OF THIS SEAT. 3 by the template 'for every input the law returns true; each argument reads behind the call as it read before'; 0 by the template 'total and deterministic' (their statements: YtdnmjhkgibaadaaTotals.lean).
  GIVEN WITH THE SEED: the statements are not yours to turn. If you find one false, say at which input.
  Laid BY PROGRAM, IN A SANDBOX (cutbox-rows.mjs): the forced cells as the released guide's own fill.sh prints them over the translation c0774ec70d044812… (all of the seat's roots in one cut). By AI agents, Wed Nov 11 2026. No macro, syntax, notation, axiom, sorry.
-/
import Derived.Test.YtdnmjhkgibaadaaChecked
import GoSem.Claim
import GoSem.ClaimJoined
import GoSem.ClaimMapViews
import Derived.JoinedTies
import Derived.KernelRfl
namespace Go.Proofs.Ytdnmjhkgibaadaa
/- THE CELL 'sum', in the pinned program and in every row, IS THE sha256 OF THE DUMP (.gsa) THAT YtdnmjhkgibaadaaProg.lean LOADS. Nothing in Lean hashes anything: it is a label: what it is worth is what the hold of that sum in a sandbox is worth. -/
noncomputable def Try.pinned : Pinned := { name := "ytdnmjhkgibaadaa", sum := "c0774ec70d04481276a5c57dd9d79ca48df5be5ebee8cfd43824097b58554eb7", checked := Try.checked }
namespace Rows
def none {H : Type} : Left H := { results := [], args := [] }

/-- 'trunnionlaw20.VirqSleeps': WHATEVER THE INPUT: true; the input reads as it did. -/
def virqSleepsSpec : ChangeSpec := { name := "virqSleeps", fn := fun _ => fun
  | [d1, d2, d3, d4] => { results := [.lit (.bool true)], args := [d1, d2, d3, d4] }
  | _ => none }
def virqSleepsRow : OpenClaim := { program := "ytdnmjhkgibaadaa", sum := "c0774ec70d04481276a5c57dd9d79ca48df5be5ebee8cfd43824097b58554eb7", func := "trunnion/trunnionlaw20.VirqSleeps", spec := "virqSleeps", apart := false }
def VirqSleepsSaid : Prop := virqSleepsRow.holds Try.pinned (OpenSpec.ofChange virqSleepsSpec)

/-- ITS FALSE NEIGHBOUR: 'it returns false'. Refute it at one input. -/
def virqSleepsWrong : ChangeSpec := { name := "virqSleeps", fn := fun _ => fun
  | [d1, d2, d3, d4] => { results := [.lit (.bool false)], args := [d1, d2, d3, d4] }
  | _ => none }
def VirqSleepsWrongFalsely : Prop := virqSleepsRow.holds Try.pinned (OpenSpec.ofChange virqSleepsWrong)

/-- 'trunnionlaw20.VirqTells': WHATEVER THE INPUT: true; the input reads as it did. -/
def virqTellsSpec : ChangeSpec := { name := "virqTells", fn := fun _ => fun
  | [d1, d2, d3, d4] => { results := [.lit (.bool true)], args := [d1, d2, d3, d4] }
  | _ => none }
def virqTellsRow : OpenClaim := { program := "ytdnmjhkgibaadaa", sum := "c0774ec70d04481276a5c57dd9d79ca48df5be5ebee8cfd43824097b58554eb7", func := "trunnion/trunnionlaw20.VirqTells", spec := "virqTells", apart := false }
def VirqTellsSaid : Prop := virqTellsRow.holds Try.pinned (OpenSpec.ofChange virqTellsSpec)

/-- ITS FALSE NEIGHBOUR: 'it returns false'. Refute it at one input. -/
def virqTellsWrong : ChangeSpec := { name := "virqTells", fn := fun _ => fun
  | [d1, d2, d3, d4] => { results := [.lit (.bool false)], args := [d1, d2, d3, d4] }
  | _ => none }
def VirqTellsWrongFalsely : Prop := virqTellsRow.holds Try.pinned (OpenSpec.ofChange virqTellsWrong)

/-- 'trunnionlaw20.VirqParts': WHATEVER THE INPUT: true; the input reads as it did. -/
def virqPartsSpec : ChangeSpec := { name := "virqParts", fn := fun _ => fun
  | [d1, d2, d3] => { results := [.lit (.bool true)], args := [d1, d2, d3] }
  | _ => none }
def virqPartsRow : OpenClaim := { program := "ytdnmjhkgibaadaa", sum := "c0774ec70d04481276a5c57dd9d79ca48df5be5ebee8cfd43824097b58554eb7", func := "trunnion/trunnionlaw20.VirqParts", spec := "virqParts", apart := false }
def VirqPartsSaid : Prop := virqPartsRow.holds Try.pinned (OpenSpec.ofChange virqPartsSpec)

/-- ITS FALSE NEIGHBOUR: 'it returns false'. Refute it at one input. -/
def virqPartsWrong : ChangeSpec := { name := "virqParts", fn := fun _ => fun
  | [d1, d2, d3] => { results := [.lit (.bool false)], args := [d1, d2, d3] }
  | _ => none }
def VirqPartsWrongFalsely : Prop := virqPartsRow.holds Try.pinned (OpenSpec.ofChange virqPartsWrong)

/- THE SECOND FORM. 'bulk': how many values and letters a reading holds, each counted each time it is reached (what is shared counts as often as it is met; a slice's spare places count too). A statement '..UptoSaid' is the law's where the arguments, and the package variables that the reading takes, are together of bulk at most 1048576: NARROWER than '..Said'. Prove '..Said' where nothing that the law and all that it calls make is longer than what came in: it says more and counts as full. Else prove '..UptoSaid'. A law counts once. -/
mutual
def uptoBulk {H : Type} : DataW H → Nat
  | .lit (.string bytes) => bytes.length + 1
  | .lit _ => 1
  | .nil => 1
  | .ptr d => uptoBulk d + 1
  | .slice elems spare => uptoBulkAll elems + uptoBulkAll spare + 1
  | .agg parts => uptoBulkAll parts + 1
  | .iface _ d => uptoBulk d + 1
  | .map entries => uptoBulkEntries entries + 1
  | .held _ => 1
def uptoBulkAll {H : Type} : List (DataW H) → Nat
  | [] => 0
  | d :: r => uptoBulk d + uptoBulkAll r
def uptoBulkEntries {H : Type} : List (Lit × DataW H) → Nat
  | [] => 0
  | x :: r => uptoBulkEntry x + uptoBulkEntries r
def uptoBulkEntry {H : Type} : Lit × DataW H → Nat
  | (.string bytes, d) => bytes.length + uptoBulk d + 1
  | (_, d) => uptoBulk d + 1
 end
def uptoSmall : (H : Type) → List (DataW H) → Bool := fun _ ds => decide (uptoBulkAll ds ≤ 1048576)
def OpenSpec.upto (s : _root_.Go.ChangeSpec) : _root_.Go.OpenSpec := { _root_.Go.OpenSpec.ofChange s with cond := some uptoSmall }

/-- 'trunnionlaw20.VirqSleeps', WHERE WHAT IT READS IS OF BULK AT MOST 1048576: true; the input reads as it did. -/
def virqSleepsUptoRow : OpenClaim := { program := "ytdnmjhkgibaadaa", sum := "c0774ec70d04481276a5c57dd9d79ca48df5be5ebee8cfd43824097b58554eb7", func := "trunnion/trunnionlaw20.VirqSleeps", spec := "virqSleeps", apart := false, narrowed := true }
def VirqSleepsUptoSaid : Prop := virqSleepsUptoRow.holds Try.pinned (OpenSpec.upto virqSleepsSpec)

/-- 'trunnionlaw20.VirqTells', WHERE WHAT IT READS IS OF BULK AT MOST 1048576: true; the input reads as it did. -/
def virqTellsUptoRow : OpenClaim := { program := "ytdnmjhkgibaadaa", sum := "c0774ec70d04481276a5c57dd9d79ca48df5be5ebee8cfd43824097b58554eb7", func := "trunnion/trunnionlaw20.VirqTells", spec := "virqTells", apart := false, narrowed := true }
def VirqTellsUptoSaid : Prop := virqTellsUptoRow.holds Try.pinned (OpenSpec.upto virqTellsSpec)

/-- 'trunnionlaw20.VirqParts', WHERE WHAT IT READS IS OF BULK AT MOST 1048576: true; the input reads as it did. -/
def virqPartsUptoRow : OpenClaim := { program := "ytdnmjhkgibaadaa", sum := "c0774ec70d04481276a5c57dd9d79ca48df5be5ebee8cfd43824097b58554eb7", func := "trunnion/trunnionlaw20.VirqParts", spec := "virqParts", apart := false, narrowed := true }
def VirqPartsUptoSaid : Prop := virqPartsUptoRow.holds Try.pinned (OpenSpec.upto virqPartsSpec)

end Rows
end Go.Proofs.Ytdnmjhkgibaadaa
