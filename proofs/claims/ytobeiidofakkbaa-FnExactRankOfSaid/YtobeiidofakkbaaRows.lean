/-
  No cell of these rows narrows 'for every input' (looked for: loops, veiled, ifaces, maps, wideKeys, modest, calm, conditions, laid).
  DERIVED. THE GIVEN ROWS OF THIS SEAT. 8 by the template 'for every input the law returns true; each argument reads behind the call as it read before'; 0 by the template 'total and deterministic' (their statements: YtobeiidofakkbaaTotals.lean).
  GIVEN WITH THE SEED: the statements are not yours to turn. If you find one false, say at which input.
  Laid BY PROGRAM, IN A SANDBOX (cutbox-rows.mjs): the forced cells as the released guide's own fill.sh prints them over the translation 4fab65adef5bbaec… (all of the seat's roots in one cut). By AI agents, Wed Nov 11 2026. No macro, syntax, notation, axiom, sorry.
-/
import Derived.Test.YtobeiidofakkbaaChecked
import GoSem.Claim
import GoSem.ClaimJoined
import GoSem.ClaimMapViews
import Derived.JoinedTies
import Derived.KernelRfl
namespace Go.Proofs.Ytobeiidofakkbaa
/- THE CELL 'sum', in the pinned program and in every row, IS THE sha256 OF THE DUMP (.gsa) THAT YtobeiidofakkbaaProg.lean LOADS. Nothing in Lean hashes anything: it is a label: what it is worth is what the hold of that sum in a sandbox is worth. -/
noncomputable def Try.pinned : Pinned := { name := "ytobeiidofakkbaa", sum := "4fab65adef5bbaecfb427a519812a6a831a4302ced89821e1d112015a3f93c6c", checked := Try.checked }
namespace Rows
def none {H : Type} : Left H := { results := [], args := [] }

/-- 'laws.FnExactTrainOk': WHATEVER THE INPUT: true; the input reads as it did. -/
def fnExactTrainOkSpec : ChangeSpec := { name := "fnExactTrainOk", fn := fun _ => fun
  | [d] => { results := [.lit (.bool true)], args := [d] }
  | _ => none }
def fnExactTrainOkRow : OpenClaim := { program := "ytobeiidofakkbaa", sum := "4fab65adef5bbaecfb427a519812a6a831a4302ced89821e1d112015a3f93c6c", func := "loop.example/g03317/laws.FnExactTrainOk", spec := "fnExactTrainOk", apart := false }
def FnExactTrainOkSaid : Prop := fnExactTrainOkRow.holds Try.pinned (OpenSpec.ofChange fnExactTrainOkSpec)

/-- ITS FALSE NEIGHBOUR: 'it returns false'. Refute it at one input. -/
def fnExactTrainOkWrong : ChangeSpec := { name := "fnExactTrainOk", fn := fun _ => fun
  | [d] => { results := [.lit (.bool false)], args := [d] }
  | _ => none }
def FnExactTrainOkWrongFalsely : Prop := fnExactTrainOkRow.holds Try.pinned (OpenSpec.ofChange fnExactTrainOkWrong)

/-- 'laws.FnExactLengthOf': WHATEVER THE INPUT: true; the input reads as it did. -/
def fnExactLengthOfSpec : ChangeSpec := { name := "fnExactLengthOf", fn := fun _ => fun
  | [d] => { results := [.lit (.bool true)], args := [d] }
  | _ => none }
def fnExactLengthOfRow : OpenClaim := { program := "ytobeiidofakkbaa", sum := "4fab65adef5bbaecfb427a519812a6a831a4302ced89821e1d112015a3f93c6c", func := "loop.example/g03317/laws.FnExactLengthOf", spec := "fnExactLengthOf", apart := false }
def FnExactLengthOfSaid : Prop := fnExactLengthOfRow.holds Try.pinned (OpenSpec.ofChange fnExactLengthOfSpec)

/-- ITS FALSE NEIGHBOUR: 'it returns false'. Refute it at one input. -/
def fnExactLengthOfWrong : ChangeSpec := { name := "fnExactLengthOf", fn := fun _ => fun
  | [d] => { results := [.lit (.bool false)], args := [d] }
  | _ => none }
def FnExactLengthOfWrongFalsely : Prop := fnExactLengthOfRow.holds Try.pinned (OpenSpec.ofChange fnExactLengthOfWrong)

/-- 'laws.FnExactWidthOf': WHATEVER THE INPUT: true; the input reads as it did. -/
def fnExactWidthOfSpec : ChangeSpec := { name := "fnExactWidthOf", fn := fun _ => fun
  | [d] => { results := [.lit (.bool true)], args := [d] }
  | _ => none }
def fnExactWidthOfRow : OpenClaim := { program := "ytobeiidofakkbaa", sum := "4fab65adef5bbaecfb427a519812a6a831a4302ced89821e1d112015a3f93c6c", func := "loop.example/g03317/laws.FnExactWidthOf", spec := "fnExactWidthOf", apart := false }
def FnExactWidthOfSaid : Prop := fnExactWidthOfRow.holds Try.pinned (OpenSpec.ofChange fnExactWidthOfSpec)

/-- ITS FALSE NEIGHBOUR: 'it returns false'. Refute it at one input. -/
def fnExactWidthOfWrong : ChangeSpec := { name := "fnExactWidthOf", fn := fun _ => fun
  | [d] => { results := [.lit (.bool false)], args := [d] }
  | _ => none }
def FnExactWidthOfWrongFalsely : Prop := fnExactWidthOfRow.holds Try.pinned (OpenSpec.ofChange fnExactWidthOfWrong)

/-- 'laws.FnExactDraughtOf': WHATEVER THE INPUT: true; the input reads as it did. -/
def fnExactDraughtOfSpec : ChangeSpec := { name := "fnExactDraughtOf", fn := fun _ => fun
  | [d] => { results := [.lit (.bool true)], args := [d] }
  | _ => none }
def fnExactDraughtOfRow : OpenClaim := { program := "ytobeiidofakkbaa", sum := "4fab65adef5bbaecfb427a519812a6a831a4302ced89821e1d112015a3f93c6c", func := "loop.example/g03317/laws.FnExactDraughtOf", spec := "fnExactDraughtOf", apart := false }
def FnExactDraughtOfSaid : Prop := fnExactDraughtOfRow.holds Try.pinned (OpenSpec.ofChange fnExactDraughtOfSpec)

/-- ITS FALSE NEIGHBOUR: 'it returns false'. Refute it at one input. -/
def fnExactDraughtOfWrong : ChangeSpec := { name := "fnExactDraughtOf", fn := fun _ => fun
  | [d] => { results := [.lit (.bool false)], args := [d] }
  | _ => none }
def FnExactDraughtOfWrongFalsely : Prop := fnExactDraughtOfRow.holds Try.pinned (OpenSpec.ofChange fnExactDraughtOfWrong)

/-- 'laws.FnExactClassOf': WHATEVER THE INPUT: true; the input reads as it did. -/
def fnExactClassOfSpec : ChangeSpec := { name := "fnExactClassOf", fn := fun _ => fun
  | [d] => { results := [.lit (.bool true)], args := [d] }
  | _ => none }
def fnExactClassOfRow : OpenClaim := { program := "ytobeiidofakkbaa", sum := "4fab65adef5bbaecfb427a519812a6a831a4302ced89821e1d112015a3f93c6c", func := "loop.example/g03317/laws.FnExactClassOf", spec := "fnExactClassOf", apart := false }
def FnExactClassOfSaid : Prop := fnExactClassOfRow.holds Try.pinned (OpenSpec.ofChange fnExactClassOfSpec)

/-- ITS FALSE NEIGHBOUR: 'it returns false'. Refute it at one input. -/
def fnExactClassOfWrong : ChangeSpec := { name := "fnExactClassOf", fn := fun _ => fun
  | [d] => { results := [.lit (.bool false)], args := [d] }
  | _ => none }
def FnExactClassOfWrongFalsely : Prop := fnExactClassOfRow.holds Try.pinned (OpenSpec.ofChange fnExactClassOfWrong)

/-- 'laws.FnExactSpeedOf': WHATEVER THE INPUT: true; the input reads as it did. -/
def fnExactSpeedOfSpec : ChangeSpec := { name := "fnExactSpeedOf", fn := fun _ => fun
  | [d] => { results := [.lit (.bool true)], args := [d] }
  | _ => none }
def fnExactSpeedOfRow : OpenClaim := { program := "ytobeiidofakkbaa", sum := "4fab65adef5bbaecfb427a519812a6a831a4302ced89821e1d112015a3f93c6c", func := "loop.example/g03317/laws.FnExactSpeedOf", spec := "fnExactSpeedOf", apart := false }
def FnExactSpeedOfSaid : Prop := fnExactSpeedOfRow.holds Try.pinned (OpenSpec.ofChange fnExactSpeedOfSpec)

/-- ITS FALSE NEIGHBOUR: 'it returns false'. Refute it at one input. -/
def fnExactSpeedOfWrong : ChangeSpec := { name := "fnExactSpeedOf", fn := fun _ => fun
  | [d] => { results := [.lit (.bool false)], args := [d] }
  | _ => none }
def FnExactSpeedOfWrongFalsely : Prop := fnExactSpeedOfRow.holds Try.pinned (OpenSpec.ofChange fnExactSpeedOfWrong)

/-- 'laws.FnExactCallOk': WHATEVER THE INPUT: true; the input reads as it did. -/
def fnExactCallOkSpec : ChangeSpec := { name := "fnExactCallOk", fn := fun _ => fun
  | [d] => { results := [.lit (.bool true)], args := [d] }
  | _ => none }
def fnExactCallOkRow : OpenClaim := { program := "ytobeiidofakkbaa", sum := "4fab65adef5bbaecfb427a519812a6a831a4302ced89821e1d112015a3f93c6c", func := "loop.example/g03317/laws.FnExactCallOk", spec := "fnExactCallOk", apart := false }
def FnExactCallOkSaid : Prop := fnExactCallOkRow.holds Try.pinned (OpenSpec.ofChange fnExactCallOkSpec)

/-- ITS FALSE NEIGHBOUR: 'it returns false'. Refute it at one input. -/
def fnExactCallOkWrong : ChangeSpec := { name := "fnExactCallOk", fn := fun _ => fun
  | [d] => { results := [.lit (.bool false)], args := [d] }
  | _ => none }
def FnExactCallOkWrongFalsely : Prop := fnExactCallOkRow.holds Try.pinned (OpenSpec.ofChange fnExactCallOkWrong)

/-- 'laws.FnExactRankOf': WHATEVER THE INPUT: true; the input reads as it did. -/
def fnExactRankOfSpec : ChangeSpec := { name := "fnExactRankOf", fn := fun _ => fun
  | [d1, d2] => { results := [.lit (.bool true)], args := [d1, d2] }
  | _ => none }
def fnExactRankOfRow : OpenClaim := { program := "ytobeiidofakkbaa", sum := "4fab65adef5bbaecfb427a519812a6a831a4302ced89821e1d112015a3f93c6c", func := "loop.example/g03317/laws.FnExactRankOf", spec := "fnExactRankOf", apart := false }
def FnExactRankOfSaid : Prop := fnExactRankOfRow.holds Try.pinned (OpenSpec.ofChange fnExactRankOfSpec)

/-- ITS FALSE NEIGHBOUR: 'it returns false'. Refute it at one input. -/
def fnExactRankOfWrong : ChangeSpec := { name := "fnExactRankOf", fn := fun _ => fun
  | [d1, d2] => { results := [.lit (.bool false)], args := [d1, d2] }
  | _ => none }
def FnExactRankOfWrongFalsely : Prop := fnExactRankOfRow.holds Try.pinned (OpenSpec.ofChange fnExactRankOfWrong)

/- THE SECOND FORM. 'bulk': how many values and letters a reading holds, each counted each time it is reached (what is shared counts as often as it is met; a slice's spare places count too). A statement '..UptoSaid' is the law's where the arguments, and the package variables that the reading takes, are together of bulk at most 1048576: NARROWER than '..Said'. Prove '..Said' where nothing that the law and all that it calls make is longer than what came in: it says more and counts as full. Else prove '..UptoSaid'. A law counts once. -/
mutual
def uptoBulk {H : Type} : DataW H → Nat
  | .lit (.string bytes) => bytes.length + 1
  | .lit _ => 1
  | .nil => 1
  | .ptr d => uptoBulk d + 1
  | .slice elems spare => uptoBulkAll elems + uptoBulkAll spare + 1
  | .agg parts => uptoBulkAll parts + 1
  | .iface _ d => uptoBulk d + 1
  | .map entries => uptoBulkEntries entries + 1
  | .held _ => 1
def uptoBulkAll {H : Type} : List (DataW H) → Nat
  | [] => 0
  | d :: r => uptoBulk d + uptoBulkAll r
def uptoBulkEntries {H : Type} : List (Lit × DataW H) → Nat
  | [] => 0
  | x :: r => uptoBulkEntry x + uptoBulkEntries r
def uptoBulkEntry {H : Type} : Lit × DataW H → Nat
  | (.string bytes, d) => bytes.length + uptoBulk d + 1
  | (_, d) => uptoBulk d + 1
 end
def uptoSmall : (H : Type) → List (DataW H) → Bool := fun _ ds => decide (uptoBulkAll ds ≤ 1048576)
def OpenSpec.upto (s : _root_.Go.ChangeSpec) : _root_.Go.OpenSpec := { _root_.Go.OpenSpec.ofChange s with cond := some uptoSmall }

/-- 'laws.FnExactTrainOk', WHERE WHAT IT READS IS OF BULK AT MOST 1048576: true; the input reads as it did. -/
def fnExactTrainOkUptoRow : OpenClaim := { program := "ytobeiidofakkbaa", sum := "4fab65adef5bbaecfb427a519812a6a831a4302ced89821e1d112015a3f93c6c", func := "loop.example/g03317/laws.FnExactTrainOk", spec := "fnExactTrainOk", apart := false, narrowed := true }
def FnExactTrainOkUptoSaid : Prop := fnExactTrainOkUptoRow.holds Try.pinned (OpenSpec.upto fnExactTrainOkSpec)

/-- 'laws.FnExactLengthOf', WHERE WHAT IT READS IS OF BULK AT MOST 1048576: true; the input reads as it did. -/
def fnExactLengthOfUptoRow : OpenClaim := { program := "ytobeiidofakkbaa", sum := "4fab65adef5bbaecfb427a519812a6a831a4302ced89821e1d112015a3f93c6c", func := "loop.example/g03317/laws.FnExactLengthOf", spec := "fnExactLengthOf", apart := false, narrowed := true }
def FnExactLengthOfUptoSaid : Prop := fnExactLengthOfUptoRow.holds Try.pinned (OpenSpec.upto fnExactLengthOfSpec)

/-- 'laws.FnExactWidthOf', WHERE WHAT IT READS IS OF BULK AT MOST 1048576: true; the input reads as it did. -/
def fnExactWidthOfUptoRow : OpenClaim := { program := "ytobeiidofakkbaa", sum := "4fab65adef5bbaecfb427a519812a6a831a4302ced89821e1d112015a3f93c6c", func := "loop.example/g03317/laws.FnExactWidthOf", spec := "fnExactWidthOf", apart := false, narrowed := true }
def FnExactWidthOfUptoSaid : Prop := fnExactWidthOfUptoRow.holds Try.pinned (OpenSpec.upto fnExactWidthOfSpec)

/-- 'laws.FnExactDraughtOf', WHERE WHAT IT READS IS OF BULK AT MOST 1048576: true; the input reads as it did. -/
def fnExactDraughtOfUptoRow : OpenClaim := { program := "ytobeiidofakkbaa", sum := "4fab65adef5bbaecfb427a519812a6a831a4302ced89821e1d112015a3f93c6c", func := "loop.example/g03317/laws.FnExactDraughtOf", spec := "fnExactDraughtOf", apart := false, narrowed := true }
def FnExactDraughtOfUptoSaid : Prop := fnExactDraughtOfUptoRow.holds Try.pinned (OpenSpec.upto fnExactDraughtOfSpec)

/-- 'laws.FnExactClassOf', WHERE WHAT IT READS IS OF BULK AT MOST 1048576: true; the input reads as it did. -/
def fnExactClassOfUptoRow : OpenClaim := { program := "ytobeiidofakkbaa", sum := "4fab65adef5bbaecfb427a519812a6a831a4302ced89821e1d112015a3f93c6c", func := "loop.example/g03317/laws.FnExactClassOf", spec := "fnExactClassOf", apart := false, narrowed := true }
def FnExactClassOfUptoSaid : Prop := fnExactClassOfUptoRow.holds Try.pinned (OpenSpec.upto fnExactClassOfSpec)

/-- 'laws.FnExactSpeedOf', WHERE WHAT IT READS IS OF BULK AT MOST 1048576: true; the input reads as it did. -/
def fnExactSpeedOfUptoRow : OpenClaim := { program := "ytobeiidofakkbaa", sum := "4fab65adef5bbaecfb427a519812a6a831a4302ced89821e1d112015a3f93c6c", func := "loop.example/g03317/laws.FnExactSpeedOf", spec := "fnExactSpeedOf", apart := false, narrowed := true }
def FnExactSpeedOfUptoSaid : Prop := fnExactSpeedOfUptoRow.holds Try.pinned (OpenSpec.upto fnExactSpeedOfSpec)

/-- 'laws.FnExactCallOk', WHERE WHAT IT READS IS OF BULK AT MOST 1048576: true; the input reads as it did. -/
def fnExactCallOkUptoRow : OpenClaim := { program := "ytobeiidofakkbaa", sum := "4fab65adef5bbaecfb427a519812a6a831a4302ced89821e1d112015a3f93c6c", func := "loop.example/g03317/laws.FnExactCallOk", spec := "fnExactCallOk", apart := false, narrowed := true }
def FnExactCallOkUptoSaid : Prop := fnExactCallOkUptoRow.holds Try.pinned (OpenSpec.upto fnExactCallOkSpec)

/-- 'laws.FnExactRankOf', WHERE WHAT IT READS IS OF BULK AT MOST 1048576: true; the input reads as it did. -/
def fnExactRankOfUptoRow : OpenClaim := { program := "ytobeiidofakkbaa", sum := "4fab65adef5bbaecfb427a519812a6a831a4302ced89821e1d112015a3f93c6c", func := "loop.example/g03317/laws.FnExactRankOf", spec := "fnExactRankOf", apart := false, narrowed := true }
def FnExactRankOfUptoSaid : Prop := fnExactRankOfUptoRow.holds Try.pinned (OpenSpec.upto fnExactRankOfSpec)

end Rows
end Go.Proofs.Ytobeiidofakkbaa
