/-
  No cell of these rows narrows 'for every input' (looked for: loops, veiled, ifaces, maps, wideKeys, modest, calm, conditions, laid).
  DERIVED. THE GIVEN ROWS OF THIS SEAT. 12 by the template 'for every input the law returns true; each argument reads behind the call as it read before'; 0 by the template 'total and deterministic' (their statements: YtmcmialaofckkaaTotals.lean).
  GIVEN WITH THE SEED: the statements are not yours to turn. If you find one false, say at which input.
  Laid BY PROGRAM, IN A SANDBOX (cutbox-rows.mjs): the forced cells as the released guide's own fill.sh prints them over the translation 459f71c9d13b2885… (all of the seat's roots in one cut). By AI agents, Wed Nov 11 2026. No macro, syntax, notation, axiom, sorry.
-/
import Derived.Test.YtmcmialaofckkaaChecked
import GoSem.Claim
import GoSem.ClaimJoined
import GoSem.ClaimMapViews
import Derived.JoinedTies
import Derived.KernelRfl
namespace Go.Proofs.Ytmcmialaofckkaa
/- THE CELL 'sum', in the pinned program and in every row, IS THE sha256 OF THE DUMP (.gsa) THAT YtmcmialaofckkaaProg.lean LOADS. Nothing in Lean hashes anything: it is a label: what it is worth is what the hold of that sum in a sandbox is worth. -/
noncomputable def Try.pinned : Pinned := { name := "ytmcmialaofckkaa", sum := "459f71c9d13b28858fc6543f8722f09895d6ee1125ea68d77953885188747729", checked := Try.checked }
namespace Rows
def none {H : Type} : Left H := { results := [], args := [] }

/-- 'laws.FnNobodyWaits': WHATEVER THE INPUT: true; the input reads as it did. -/
def fnNobodyWaitsSpec : ChangeSpec := { name := "fnNobodyWaits", fn := fun _ => fun
  | [d] => { results := [.lit (.bool true)], args := [d] }
  | _ => none }
def fnNobodyWaitsRow : OpenClaim := { program := "ytmcmialaofckkaa", sum := "459f71c9d13b28858fc6543f8722f09895d6ee1125ea68d77953885188747729", func := "loop.example/g03317/laws.FnNobodyWaits", spec := "fnNobodyWaits", apart := false }
def FnNobodyWaitsSaid : Prop := fnNobodyWaitsRow.holds Try.pinned (OpenSpec.ofChange fnNobodyWaitsSpec)

/-- ITS FALSE NEIGHBOUR: 'it returns false'. Refute it at one input. -/
def fnNobodyWaitsWrong : ChangeSpec := { name := "fnNobodyWaits", fn := fun _ => fun
  | [d] => { results := [.lit (.bool false)], args := [d] }
  | _ => none }
def FnNobodyWaitsWrongFalsely : Prop := fnNobodyWaitsRow.holds Try.pinned (OpenSpec.ofChange fnNobodyWaitsWrong)

/-- 'laws.FnReformed': WHATEVER THE INPUT: true; the input reads as it did. -/
def fnReformedSpec : ChangeSpec := { name := "fnReformed", fn := fun _ => fun
  | [d] => { results := [.lit (.bool true)], args := [d] }
  | _ => none }
def fnReformedRow : OpenClaim := { program := "ytmcmialaofckkaa", sum := "459f71c9d13b28858fc6543f8722f09895d6ee1125ea68d77953885188747729", func := "loop.example/g03317/laws.FnReformed", spec := "fnReformed", apart := false }
def FnReformedSaid : Prop := fnReformedRow.holds Try.pinned (OpenSpec.ofChange fnReformedSpec)

/-- ITS FALSE NEIGHBOUR: 'it returns false'. Refute it at one input. -/
def fnReformedWrong : ChangeSpec := { name := "fnReformed", fn := fun _ => fun
  | [d] => { results := [.lit (.bool false)], args := [d] }
  | _ => none }
def FnReformedWrongFalsely : Prop := fnReformedRow.holds Try.pinned (OpenSpec.ofChange fnReformedWrong)

/-- 'laws.FnExactIdsOf': WHATEVER THE INPUT: true; the input reads as it did. -/
def fnExactIdsOfSpec : ChangeSpec := { name := "fnExactIdsOf", fn := fun _ => fun
  | [d] => { results := [.lit (.bool true)], args := [d] }
  | _ => none }
def fnExactIdsOfRow : OpenClaim := { program := "ytmcmialaofckkaa", sum := "459f71c9d13b28858fc6543f8722f09895d6ee1125ea68d77953885188747729", func := "loop.example/g03317/laws.FnExactIdsOf", spec := "fnExactIdsOf", apart := false }
def FnExactIdsOfSaid : Prop := fnExactIdsOfRow.holds Try.pinned (OpenSpec.ofChange fnExactIdsOfSpec)

/-- ITS FALSE NEIGHBOUR: 'it returns false'. Refute it at one input. -/
def fnExactIdsOfWrong : ChangeSpec := { name := "fnExactIdsOf", fn := fun _ => fun
  | [d] => { results := [.lit (.bool false)], args := [d] }
  | _ => none }
def FnExactIdsOfWrongFalsely : Prop := fnExactIdsOfRow.holds Try.pinned (OpenSpec.ofChange fnExactIdsOfWrong)

/-- 'laws.FnExactDivideTrain': WHATEVER THE INPUT: true; the input reads as it did. -/
def fnExactDivideTrainSpec : ChangeSpec := { name := "fnExactDivideTrain", fn := fun _ => fun
  | [d1, d2] => { results := [.lit (.bool true)], args := [d1, d2] }
  | _ => none }
def fnExactDivideTrainRow : OpenClaim := { program := "ytmcmialaofckkaa", sum := "459f71c9d13b28858fc6543f8722f09895d6ee1125ea68d77953885188747729", func := "loop.example/g03317/laws.FnExactDivideTrain", spec := "fnExactDivideTrain", apart := false }
def FnExactDivideTrainSaid : Prop := fnExactDivideTrainRow.holds Try.pinned (OpenSpec.ofChange fnExactDivideTrainSpec)

/-- ITS FALSE NEIGHBOUR: 'it returns false'. Refute it at one input. -/
def fnExactDivideTrainWrong : ChangeSpec := { name := "fnExactDivideTrain", fn := fun _ => fun
  | [d1, d2] => { results := [.lit (.bool false)], args := [d1, d2] }
  | _ => none }
def FnExactDivideTrainWrongFalsely : Prop := fnExactDivideTrainRow.holds Try.pinned (OpenSpec.ofChange fnExactDivideTrainWrong)

/-- 'laws.FnCoupled': WHATEVER THE INPUT: true; the input reads as it did. -/
def fnCoupledSpec : ChangeSpec := { name := "fnCoupled", fn := fun _ => fun
  | [d] => { results := [.lit (.bool true)], args := [d] }
  | _ => none }
def fnCoupledRow : OpenClaim := { program := "ytmcmialaofckkaa", sum := "459f71c9d13b28858fc6543f8722f09895d6ee1125ea68d77953885188747729", func := "loop.example/g03317/laws.FnCoupled", spec := "fnCoupled", apart := false }
def FnCoupledSaid : Prop := fnCoupledRow.holds Try.pinned (OpenSpec.ofChange fnCoupledSpec)

/-- ITS FALSE NEIGHBOUR: 'it returns false'. Refute it at one input. -/
def fnCoupledWrong : ChangeSpec := { name := "fnCoupled", fn := fun _ => fun
  | [d] => { results := [.lit (.bool false)], args := [d] }
  | _ => none }
def FnCoupledWrongFalsely : Prop := fnCoupledRow.holds Try.pinned (OpenSpec.ofChange fnCoupledWrong)

/-- 'laws.FnExactCoupleTrains': WHATEVER THE INPUT: true; the input reads as it did. -/
def fnExactCoupleTrainsSpec : ChangeSpec := { name := "fnExactCoupleTrains", fn := fun _ => fun
  | [d1, d2] => { results := [.lit (.bool true)], args := [d1, d2] }
  | _ => none }
def fnExactCoupleTrainsRow : OpenClaim := { program := "ytmcmialaofckkaa", sum := "459f71c9d13b28858fc6543f8722f09895d6ee1125ea68d77953885188747729", func := "loop.example/g03317/laws.FnExactCoupleTrains", spec := "fnExactCoupleTrains", apart := false }
def FnExactCoupleTrainsSaid : Prop := fnExactCoupleTrainsRow.holds Try.pinned (OpenSpec.ofChange fnExactCoupleTrainsSpec)

/-- ITS FALSE NEIGHBOUR: 'it returns false'. Refute it at one input. -/
def fnExactCoupleTrainsWrong : ChangeSpec := { name := "fnExactCoupleTrains", fn := fun _ => fun
  | [d1, d2] => { results := [.lit (.bool false)], args := [d1, d2] }
  | _ => none }
def FnExactCoupleTrainsWrongFalsely : Prop := fnExactCoupleTrainsRow.holds Try.pinned (OpenSpec.ofChange fnExactCoupleTrainsWrong)

/-- 'laws.FnFits': WHATEVER THE INPUT: true; the input reads as it did. -/
def fnFitsSpec : ChangeSpec := { name := "fnFits", fn := fun _ => fun
  | [d] => { results := [.lit (.bool true)], args := [d] }
  | _ => none }
def fnFitsRow : OpenClaim := { program := "ytmcmialaofckkaa", sum := "459f71c9d13b28858fc6543f8722f09895d6ee1125ea68d77953885188747729", func := "loop.example/g03317/laws.FnFits", spec := "fnFits", apart := false }
def FnFitsSaid : Prop := fnFitsRow.holds Try.pinned (OpenSpec.ofChange fnFitsSpec)

/-- ITS FALSE NEIGHBOUR: 'it returns false'. Refute it at one input. -/
def fnFitsWrong : ChangeSpec := { name := "fnFits", fn := fun _ => fun
  | [d] => { results := [.lit (.bool false)], args := [d] }
  | _ => none }
def FnFitsWrongFalsely : Prop := fnFitsRow.holds Try.pinned (OpenSpec.ofChange fnFitsWrong)

/-- 'laws.FnExactReformTrain': WHATEVER THE INPUT: true; the input reads as it did. -/
def fnExactReformTrainSpec : ChangeSpec := { name := "fnExactReformTrain", fn := fun _ => fun
  | [d1, d2] => { results := [.lit (.bool true)], args := [d1, d2] }
  | _ => none }
def fnExactReformTrainRow : OpenClaim := { program := "ytmcmialaofckkaa", sum := "459f71c9d13b28858fc6543f8722f09895d6ee1125ea68d77953885188747729", func := "loop.example/g03317/laws.FnExactReformTrain", spec := "fnExactReformTrain", apart := false }
def FnExactReformTrainSaid : Prop := fnExactReformTrainRow.holds Try.pinned (OpenSpec.ofChange fnExactReformTrainSpec)

/-- ITS FALSE NEIGHBOUR: 'it returns false'. Refute it at one input. -/
def fnExactReformTrainWrong : ChangeSpec := { name := "fnExactReformTrain", fn := fun _ => fun
  | [d1, d2] => { results := [.lit (.bool false)], args := [d1, d2] }
  | _ => none }
def FnExactReformTrainWrongFalsely : Prop := fnExactReformTrainRow.holds Try.pinned (OpenSpec.ofChange fnExactReformTrainWrong)

/-- 'laws.FnExactComesBefore': WHATEVER THE INPUT: true; the input reads as it did. -/
def fnExactComesBeforeSpec : ChangeSpec := { name := "fnExactComesBefore", fn := fun _ => fun
  | [d1, d2, d3] => { results := [.lit (.bool true)], args := [d1, d2, d3] }
  | _ => none }
def fnExactComesBeforeRow : OpenClaim := { program := "ytmcmialaofckkaa", sum := "459f71c9d13b28858fc6543f8722f09895d6ee1125ea68d77953885188747729", func := "loop.example/g03317/laws.FnExactComesBefore", spec := "fnExactComesBefore", apart := false }
def FnExactComesBeforeSaid : Prop := fnExactComesBeforeRow.holds Try.pinned (OpenSpec.ofChange fnExactComesBeforeSpec)

/-- ITS FALSE NEIGHBOUR: 'it returns false'. Refute it at one input. -/
def fnExactComesBeforeWrong : ChangeSpec := { name := "fnExactComesBefore", fn := fun _ => fun
  | [d1, d2, d3] => { results := [.lit (.bool false)], args := [d1, d2, d3] }
  | _ => none }
def FnExactComesBeforeWrongFalsely : Prop := fnExactComesBeforeRow.holds Try.pinned (OpenSpec.ofChange fnExactComesBeforeWrong)

/-- 'laws.FnExactLockOk': WHATEVER THE INPUT: true; the input reads as it did. -/
def fnExactLockOkSpec : ChangeSpec := { name := "fnExactLockOk", fn := fun _ => fun
  | [d] => { results := [.lit (.bool true)], args := [d] }
  | _ => none }
def fnExactLockOkRow : OpenClaim := { program := "ytmcmialaofckkaa", sum := "459f71c9d13b28858fc6543f8722f09895d6ee1125ea68d77953885188747729", func := "loop.example/g03317/laws.FnExactLockOk", spec := "fnExactLockOk", apart := false }
def FnExactLockOkSaid : Prop := fnExactLockOkRow.holds Try.pinned (OpenSpec.ofChange fnExactLockOkSpec)

/-- ITS FALSE NEIGHBOUR: 'it returns false'. Refute it at one input. -/
def fnExactLockOkWrong : ChangeSpec := { name := "fnExactLockOk", fn := fun _ => fun
  | [d] => { results := [.lit (.bool false)], args := [d] }
  | _ => none }
def FnExactLockOkWrongFalsely : Prop := fnExactLockOkRow.holds Try.pinned (OpenSpec.ofChange fnExactLockOkWrong)

/-- 'laws.FnExactChamberLevel': WHATEVER THE INPUT: true; the input reads as it did. -/
def fnExactChamberLevelSpec : ChangeSpec := { name := "fnExactChamberLevel", fn := fun _ => fun
  | [d] => { results := [.lit (.bool true)], args := [d] }
  | _ => none }
def fnExactChamberLevelRow : OpenClaim := { program := "ytmcmialaofckkaa", sum := "459f71c9d13b28858fc6543f8722f09895d6ee1125ea68d77953885188747729", func := "loop.example/g03317/laws.FnExactChamberLevel", spec := "fnExactChamberLevel", apart := false }
def FnExactChamberLevelSaid : Prop := fnExactChamberLevelRow.holds Try.pinned (OpenSpec.ofChange fnExactChamberLevelSpec)

/-- ITS FALSE NEIGHBOUR: 'it returns false'. Refute it at one input. -/
def fnExactChamberLevelWrong : ChangeSpec := { name := "fnExactChamberLevel", fn := fun _ => fun
  | [d] => { results := [.lit (.bool false)], args := [d] }
  | _ => none }
def FnExactChamberLevelWrongFalsely : Prop := fnExactChamberLevelRow.holds Try.pinned (OpenSpec.ofChange fnExactChamberLevelWrong)

/-- 'laws.FnExactFitsChamber': WHATEVER THE INPUT: true; the input reads as it did. -/
def fnExactFitsChamberSpec : ChangeSpec := { name := "fnExactFitsChamber", fn := fun _ => fun
  | [d1, d2] => { results := [.lit (.bool true)], args := [d1, d2] }
  | _ => none }
def fnExactFitsChamberRow : OpenClaim := { program := "ytmcmialaofckkaa", sum := "459f71c9d13b28858fc6543f8722f09895d6ee1125ea68d77953885188747729", func := "loop.example/g03317/laws.FnExactFitsChamber", spec := "fnExactFitsChamber", apart := false }
def FnExactFitsChamberSaid : Prop := fnExactFitsChamberRow.holds Try.pinned (OpenSpec.ofChange fnExactFitsChamberSpec)

/-- ITS FALSE NEIGHBOUR: 'it returns false'. Refute it at one input. -/
def fnExactFitsChamberWrong : ChangeSpec := { name := "fnExactFitsChamber", fn := fun _ => fun
  | [d1, d2] => { results := [.lit (.bool false)], args := [d1, d2] }
  | _ => none }
def FnExactFitsChamberWrongFalsely : Prop := fnExactFitsChamberRow.holds Try.pinned (OpenSpec.ofChange fnExactFitsChamberWrong)

/- THE SECOND FORM. 'bulk': how many values and letters a reading holds, each counted each time it is reached (what is shared counts as often as it is met; a slice's spare places count too). A statement '..UptoSaid' is the law's where the arguments, and the package variables that the reading takes, are together of bulk at most 1048576: NARROWER than '..Said'. Prove '..Said' where nothing that the law and all that it calls make is longer than what came in: it says more and counts as full. Else prove '..UptoSaid'. A law counts once. -/
mutual
def uptoBulk {H : Type} : DataW H → Nat
  | .lit (.string bytes) => bytes.length + 1
  | .lit _ => 1
  | .nil => 1
  | .ptr d => uptoBulk d + 1
  | .slice elems spare => uptoBulkAll elems + uptoBulkAll spare + 1
  | .agg parts => uptoBulkAll parts + 1
  | .iface _ d => uptoBulk d + 1
  | .map entries => uptoBulkEntries entries + 1
  | .held _ => 1
def uptoBulkAll {H : Type} : List (DataW H) → Nat
  | [] => 0
  | d :: r => uptoBulk d + uptoBulkAll r
def uptoBulkEntries {H : Type} : List (Lit × DataW H) → Nat
  | [] => 0
  | x :: r => uptoBulkEntry x + uptoBulkEntries r
def uptoBulkEntry {H : Type} : Lit × DataW H → Nat
  | (.string bytes, d) => bytes.length + uptoBulk d + 1
  | (_, d) => uptoBulk d + 1
 end
def uptoSmall : (H : Type) → List (DataW H) → Bool := fun _ ds => decide (uptoBulkAll ds ≤ 1048576)
def OpenSpec.upto (s : _root_.Go.ChangeSpec) : _root_.Go.OpenSpec := { _root_.Go.OpenSpec.ofChange s with cond := some uptoSmall }

/-- 'laws.FnNobodyWaits', WHERE WHAT IT READS IS OF BULK AT MOST 1048576: true; the input reads as it did. -/
def fnNobodyWaitsUptoRow : OpenClaim := { program := "ytmcmialaofckkaa", sum := "459f71c9d13b28858fc6543f8722f09895d6ee1125ea68d77953885188747729", func := "loop.example/g03317/laws.FnNobodyWaits", spec := "fnNobodyWaits", apart := false, narrowed := true }
def FnNobodyWaitsUptoSaid : Prop := fnNobodyWaitsUptoRow.holds Try.pinned (OpenSpec.upto fnNobodyWaitsSpec)

/-- 'laws.FnReformed', WHERE WHAT IT READS IS OF BULK AT MOST 1048576: true; the input reads as it did. -/
def fnReformedUptoRow : OpenClaim := { program := "ytmcmialaofckkaa", sum := "459f71c9d13b28858fc6543f8722f09895d6ee1125ea68d77953885188747729", func := "loop.example/g03317/laws.FnReformed", spec := "fnReformed", apart := false, narrowed := true }
def FnReformedUptoSaid : Prop := fnReformedUptoRow.holds Try.pinned (OpenSpec.upto fnReformedSpec)

/-- 'laws.FnExactIdsOf', WHERE WHAT IT READS IS OF BULK AT MOST 1048576: true; the input reads as it did. -/
def fnExactIdsOfUptoRow : OpenClaim := { program := "ytmcmialaofckkaa", sum := "459f71c9d13b28858fc6543f8722f09895d6ee1125ea68d77953885188747729", func := "loop.example/g03317/laws.FnExactIdsOf", spec := "fnExactIdsOf", apart := false, narrowed := true }
def FnExactIdsOfUptoSaid : Prop := fnExactIdsOfUptoRow.holds Try.pinned (OpenSpec.upto fnExactIdsOfSpec)

/-- 'laws.FnExactDivideTrain', WHERE WHAT IT READS IS OF BULK AT MOST 1048576: true; the input reads as it did. -/
def fnExactDivideTrainUptoRow : OpenClaim := { program := "ytmcmialaofckkaa", sum := "459f71c9d13b28858fc6543f8722f09895d6ee1125ea68d77953885188747729", func := "loop.example/g03317/laws.FnExactDivideTrain", spec := "fnExactDivideTrain", apart := false, narrowed := true }
def FnExactDivideTrainUptoSaid : Prop := fnExactDivideTrainUptoRow.holds Try.pinned (OpenSpec.upto fnExactDivideTrainSpec)

/-- 'laws.FnCoupled', WHERE WHAT IT READS IS OF BULK AT MOST 1048576: true; the input reads as it did. -/
def fnCoupledUptoRow : OpenClaim := { program := "ytmcmialaofckkaa", sum := "459f71c9d13b28858fc6543f8722f09895d6ee1125ea68d77953885188747729", func := "loop.example/g03317/laws.FnCoupled", spec := "fnCoupled", apart := false, narrowed := true }
def FnCoupledUptoSaid : Prop := fnCoupledUptoRow.holds Try.pinned (OpenSpec.upto fnCoupledSpec)

/-- 'laws.FnExactCoupleTrains', WHERE WHAT IT READS IS OF BULK AT MOST 1048576: true; the input reads as it did. -/
def fnExactCoupleTrainsUptoRow : OpenClaim := { program := "ytmcmialaofckkaa", sum := "459f71c9d13b28858fc6543f8722f09895d6ee1125ea68d77953885188747729", func := "loop.example/g03317/laws.FnExactCoupleTrains", spec := "fnExactCoupleTrains", apart := false, narrowed := true }
def FnExactCoupleTrainsUptoSaid : Prop := fnExactCoupleTrainsUptoRow.holds Try.pinned (OpenSpec.upto fnExactCoupleTrainsSpec)

/-- 'laws.FnFits', WHERE WHAT IT READS IS OF BULK AT MOST 1048576: true; the input reads as it did. -/
def fnFitsUptoRow : OpenClaim := { program := "ytmcmialaofckkaa", sum := "459f71c9d13b28858fc6543f8722f09895d6ee1125ea68d77953885188747729", func := "loop.example/g03317/laws.FnFits", spec := "fnFits", apart := false, narrowed := true }
def FnFitsUptoSaid : Prop := fnFitsUptoRow.holds Try.pinned (OpenSpec.upto fnFitsSpec)

/-- 'laws.FnExactReformTrain', WHERE WHAT IT READS IS OF BULK AT MOST 1048576: true; the input reads as it did. -/
def fnExactReformTrainUptoRow : OpenClaim := { program := "ytmcmialaofckkaa", sum := "459f71c9d13b28858fc6543f8722f09895d6ee1125ea68d77953885188747729", func := "loop.example/g03317/laws.FnExactReformTrain", spec := "fnExactReformTrain", apart := false, narrowed := true }
def FnExactReformTrainUptoSaid : Prop := fnExactReformTrainUptoRow.holds Try.pinned (OpenSpec.upto fnExactReformTrainSpec)

/-- 'laws.FnExactComesBefore', WHERE WHAT IT READS IS OF BULK AT MOST 1048576: true; the input reads as it did. -/
def fnExactComesBeforeUptoRow : OpenClaim := { program := "ytmcmialaofckkaa", sum := "459f71c9d13b28858fc6543f8722f09895d6ee1125ea68d77953885188747729", func := "loop.example/g03317/laws.FnExactComesBefore", spec := "fnExactComesBefore", apart := false, narrowed := true }
def FnExactComesBeforeUptoSaid : Prop := fnExactComesBeforeUptoRow.holds Try.pinned (OpenSpec.upto fnExactComesBeforeSpec)

/-- 'laws.FnExactLockOk', WHERE WHAT IT READS IS OF BULK AT MOST 1048576: true; the input reads as it did. -/
def fnExactLockOkUptoRow : OpenClaim := { program := "ytmcmialaofckkaa", sum := "459f71c9d13b28858fc6543f8722f09895d6ee1125ea68d77953885188747729", func := "loop.example/g03317/laws.FnExactLockOk", spec := "fnExactLockOk", apart := false, narrowed := true }
def FnExactLockOkUptoSaid : Prop := fnExactLockOkUptoRow.holds Try.pinned (OpenSpec.upto fnExactLockOkSpec)

/-- 'laws.FnExactChamberLevel', WHERE WHAT IT READS IS OF BULK AT MOST 1048576: true; the input reads as it did. -/
def fnExactChamberLevelUptoRow : OpenClaim := { program := "ytmcmialaofckkaa", sum := "459f71c9d13b28858fc6543f8722f09895d6ee1125ea68d77953885188747729", func := "loop.example/g03317/laws.FnExactChamberLevel", spec := "fnExactChamberLevel", apart := false, narrowed := true }
def FnExactChamberLevelUptoSaid : Prop := fnExactChamberLevelUptoRow.holds Try.pinned (OpenSpec.upto fnExactChamberLevelSpec)

/-- 'laws.FnExactFitsChamber', WHERE WHAT IT READS IS OF BULK AT MOST 1048576: true; the input reads as it did. -/
def fnExactFitsChamberUptoRow : OpenClaim := { program := "ytmcmialaofckkaa", sum := "459f71c9d13b28858fc6543f8722f09895d6ee1125ea68d77953885188747729", func := "loop.example/g03317/laws.FnExactFitsChamber", spec := "fnExactFitsChamber", apart := false, narrowed := true }
def FnExactFitsChamberUptoSaid : Prop := fnExactFitsChamberUptoRow.holds Try.pinned (OpenSpec.upto fnExactFitsChamberSpec)

end Rows
end Go.Proofs.Ytmcmialaofckkaa
