/-
  No cell of these rows narrows 'for every input' (looked for: loops, veiled, ifaces, maps, wideKeys, modest, calm, conditions, laid).
  DERIVED. THE GIVEN ROWS OF THIS SEAT. 32 by the template 'for every input the law returns true; each argument reads behind the call as it read before'; 0 by the template 'total and deterministic' (their statements: YtnfgjflmpbbfdaaTotals.lean).
  GIVEN WITH THE SEED: the statements are not yours to turn. If you find one false, say at which input.
  Laid BY PROGRAM, IN A SANDBOX (cutbox-rows.mjs): the forced cells as the released guide's own fill.sh prints them over the translation 4e5f78e5eb144360… (all of the seat's roots in one cut). By AI agents, Wed Nov 11 2026. No macro, syntax, notation, axiom, sorry.
-/
import Derived.Test.YtnfgjflmpbbfdaaChecked
import GoSem.Claim
import GoSem.ClaimJoined
import GoSem.ClaimMapViews
import Derived.JoinedTies
import Derived.KernelRfl
namespace Go.Proofs.Ytnfgjflmpbbfdaa
/- THE CELL 'sum', in the pinned program and in every row, IS THE sha256 OF THE DUMP (.gsa) THAT YtnfgjflmpbbfdaaProg.lean LOADS. Nothing in Lean hashes anything: it is a label: what it is worth is what the hold of that sum in a sandbox is worth. -/
noncomputable def Try.pinned : Pinned := { name := "ytnfgjflmpbbfdaa", sum := "4e5f78e5eb1443608805dc293a77c40a9a650c3d4af611c54a318227457fc6ac", checked := Try.checked }
namespace Rows
def none {H : Type} : Left H := { results := [], args := [] }

/-- 'laws.FnBestEntry': WHATEVER THE INPUT: true; the input reads as it did. -/
def fnBestEntrySpec : ChangeSpec := { name := "fnBestEntry", fn := fun _ => fun
  | [d] => { results := [.lit (.bool true)], args := [d] }
  | _ => none }
def fnBestEntryRow : OpenClaim := { program := "ytnfgjflmpbbfdaa", sum := "4e5f78e5eb1443608805dc293a77c40a9a650c3d4af611c54a318227457fc6ac", func := "loop.example/g03317/laws.FnBestEntry", spec := "fnBestEntry", apart := false }
def FnBestEntrySaid : Prop := fnBestEntryRow.holds Try.pinned (OpenSpec.ofChange fnBestEntrySpec)

/-- ITS FALSE NEIGHBOUR: 'it returns false'. Refute it at one input. -/
def fnBestEntryWrong : ChangeSpec := { name := "fnBestEntry", fn := fun _ => fun
  | [d] => { results := [.lit (.bool false)], args := [d] }
  | _ => none }
def FnBestEntryWrongFalsely : Prop := fnBestEntryRow.holds Try.pinned (OpenSpec.ofChange fnBestEntryWrong)

/-- 'laws.FnNobodyWaits': WHATEVER THE INPUT: true; the input reads as it did. -/
def fnNobodyWaitsSpec : ChangeSpec := { name := "fnNobodyWaits", fn := fun _ => fun
  | [d] => { results := [.lit (.bool true)], args := [d] }
  | _ => none }
def fnNobodyWaitsRow : OpenClaim := { program := "ytnfgjflmpbbfdaa", sum := "4e5f78e5eb1443608805dc293a77c40a9a650c3d4af611c54a318227457fc6ac", func := "loop.example/g03317/laws.FnNobodyWaits", spec := "fnNobodyWaits", apart := false }
def FnNobodyWaitsSaid : Prop := fnNobodyWaitsRow.holds Try.pinned (OpenSpec.ofChange fnNobodyWaitsSpec)

/-- ITS FALSE NEIGHBOUR: 'it returns false'. Refute it at one input. -/
def fnNobodyWaitsWrong : ChangeSpec := { name := "fnNobodyWaits", fn := fun _ => fun
  | [d] => { results := [.lit (.bool false)], args := [d] }
  | _ => none }
def FnNobodyWaitsWrongFalsely : Prop := fnNobodyWaitsRow.holds Try.pinned (OpenSpec.ofChange fnNobodyWaitsWrong)

/-- 'laws.FnReformed': WHATEVER THE INPUT: true; the input reads as it did. -/
def fnReformedSpec : ChangeSpec := { name := "fnReformed", fn := fun _ => fun
  | [d] => { results := [.lit (.bool true)], args := [d] }
  | _ => none }
def fnReformedRow : OpenClaim := { program := "ytnfgjflmpbbfdaa", sum := "4e5f78e5eb1443608805dc293a77c40a9a650c3d4af611c54a318227457fc6ac", func := "loop.example/g03317/laws.FnReformed", spec := "fnReformed", apart := false }
def FnReformedSaid : Prop := fnReformedRow.holds Try.pinned (OpenSpec.ofChange fnReformedSpec)

/-- ITS FALSE NEIGHBOUR: 'it returns false'. Refute it at one input. -/
def fnReformedWrong : ChangeSpec := { name := "fnReformed", fn := fun _ => fun
  | [d] => { results := [.lit (.bool false)], args := [d] }
  | _ => none }
def FnReformedWrongFalsely : Prop := fnReformedRow.holds Try.pinned (OpenSpec.ofChange fnReformedWrong)

/-- 'laws.FnExactTrainOk': WHATEVER THE INPUT: true; the input reads as it did. -/
def fnExactTrainOkSpec : ChangeSpec := { name := "fnExactTrainOk", fn := fun _ => fun
  | [d] => { results := [.lit (.bool true)], args := [d] }
  | _ => none }
def fnExactTrainOkRow : OpenClaim := { program := "ytnfgjflmpbbfdaa", sum := "4e5f78e5eb1443608805dc293a77c40a9a650c3d4af611c54a318227457fc6ac", func := "loop.example/g03317/laws.FnExactTrainOk", spec := "fnExactTrainOk", apart := false }
def FnExactTrainOkSaid : Prop := fnExactTrainOkRow.holds Try.pinned (OpenSpec.ofChange fnExactTrainOkSpec)

/-- ITS FALSE NEIGHBOUR: 'it returns false'. Refute it at one input. -/
def fnExactTrainOkWrong : ChangeSpec := { name := "fnExactTrainOk", fn := fun _ => fun
  | [d] => { results := [.lit (.bool false)], args := [d] }
  | _ => none }
def FnExactTrainOkWrongFalsely : Prop := fnExactTrainOkRow.holds Try.pinned (OpenSpec.ofChange fnExactTrainOkWrong)

/-- 'laws.FnExactLengthOf': WHATEVER THE INPUT: true; the input reads as it did. -/
def fnExactLengthOfSpec : ChangeSpec := { name := "fnExactLengthOf", fn := fun _ => fun
  | [d] => { results := [.lit (.bool true)], args := [d] }
  | _ => none }
def fnExactLengthOfRow : OpenClaim := { program := "ytnfgjflmpbbfdaa", sum := "4e5f78e5eb1443608805dc293a77c40a9a650c3d4af611c54a318227457fc6ac", func := "loop.example/g03317/laws.FnExactLengthOf", spec := "fnExactLengthOf", apart := false }
def FnExactLengthOfSaid : Prop := fnExactLengthOfRow.holds Try.pinned (OpenSpec.ofChange fnExactLengthOfSpec)

/-- ITS FALSE NEIGHBOUR: 'it returns false'. Refute it at one input. -/
def fnExactLengthOfWrong : ChangeSpec := { name := "fnExactLengthOf", fn := fun _ => fun
  | [d] => { results := [.lit (.bool false)], args := [d] }
  | _ => none }
def FnExactLengthOfWrongFalsely : Prop := fnExactLengthOfRow.holds Try.pinned (OpenSpec.ofChange fnExactLengthOfWrong)

/-- 'laws.FnLockage': WHATEVER THE INPUT: true; the input reads as it did. -/
def fnLockageSpec : ChangeSpec := { name := "fnLockage", fn := fun _ => fun
  | [d] => { results := [.lit (.bool true)], args := [d] }
  | _ => none }
def fnLockageRow : OpenClaim := { program := "ytnfgjflmpbbfdaa", sum := "4e5f78e5eb1443608805dc293a77c40a9a650c3d4af611c54a318227457fc6ac", func := "loop.example/g03317/laws.FnLockage", spec := "fnLockage", apart := false }
def FnLockageSaid : Prop := fnLockageRow.holds Try.pinned (OpenSpec.ofChange fnLockageSpec)

/-- ITS FALSE NEIGHBOUR: 'it returns false'. Refute it at one input. -/
def fnLockageWrong : ChangeSpec := { name := "fnLockage", fn := fun _ => fun
  | [d] => { results := [.lit (.bool false)], args := [d] }
  | _ => none }
def FnLockageWrongFalsely : Prop := fnLockageRow.holds Try.pinned (OpenSpec.ofChange fnLockageWrong)

/-- 'laws.FnExactWidthOf': WHATEVER THE INPUT: true; the input reads as it did. -/
def fnExactWidthOfSpec : ChangeSpec := { name := "fnExactWidthOf", fn := fun _ => fun
  | [d] => { results := [.lit (.bool true)], args := [d] }
  | _ => none }
def fnExactWidthOfRow : OpenClaim := { program := "ytnfgjflmpbbfdaa", sum := "4e5f78e5eb1443608805dc293a77c40a9a650c3d4af611c54a318227457fc6ac", func := "loop.example/g03317/laws.FnExactWidthOf", spec := "fnExactWidthOf", apart := false }
def FnExactWidthOfSaid : Prop := fnExactWidthOfRow.holds Try.pinned (OpenSpec.ofChange fnExactWidthOfSpec)

/-- ITS FALSE NEIGHBOUR: 'it returns false'. Refute it at one input. -/
def fnExactWidthOfWrong : ChangeSpec := { name := "fnExactWidthOf", fn := fun _ => fun
  | [d] => { results := [.lit (.bool false)], args := [d] }
  | _ => none }
def FnExactWidthOfWrongFalsely : Prop := fnExactWidthOfRow.holds Try.pinned (OpenSpec.ofChange fnExactWidthOfWrong)

/-- 'laws.FnExactDraughtOf': WHATEVER THE INPUT: true; the input reads as it did. -/
def fnExactDraughtOfSpec : ChangeSpec := { name := "fnExactDraughtOf", fn := fun _ => fun
  | [d] => { results := [.lit (.bool true)], args := [d] }
  | _ => none }
def fnExactDraughtOfRow : OpenClaim := { program := "ytnfgjflmpbbfdaa", sum := "4e5f78e5eb1443608805dc293a77c40a9a650c3d4af611c54a318227457fc6ac", func := "loop.example/g03317/laws.FnExactDraughtOf", spec := "fnExactDraughtOf", apart := false }
def FnExactDraughtOfSaid : Prop := fnExactDraughtOfRow.holds Try.pinned (OpenSpec.ofChange fnExactDraughtOfSpec)

/-- ITS FALSE NEIGHBOUR: 'it returns false'. Refute it at one input. -/
def fnExactDraughtOfWrong : ChangeSpec := { name := "fnExactDraughtOf", fn := fun _ => fun
  | [d] => { results := [.lit (.bool false)], args := [d] }
  | _ => none }
def FnExactDraughtOfWrongFalsely : Prop := fnExactDraughtOfRow.holds Try.pinned (OpenSpec.ofChange fnExactDraughtOfWrong)

/-- 'laws.FnExactClassOf': WHATEVER THE INPUT: true; the input reads as it did. -/
def fnExactClassOfSpec : ChangeSpec := { name := "fnExactClassOf", fn := fun _ => fun
  | [d] => { results := [.lit (.bool true)], args := [d] }
  | _ => none }
def fnExactClassOfRow : OpenClaim := { program := "ytnfgjflmpbbfdaa", sum := "4e5f78e5eb1443608805dc293a77c40a9a650c3d4af611c54a318227457fc6ac", func := "loop.example/g03317/laws.FnExactClassOf", spec := "fnExactClassOf", apart := false }
def FnExactClassOfSaid : Prop := fnExactClassOfRow.holds Try.pinned (OpenSpec.ofChange fnExactClassOfSpec)

/-- ITS FALSE NEIGHBOUR: 'it returns false'. Refute it at one input. -/
def fnExactClassOfWrong : ChangeSpec := { name := "fnExactClassOf", fn := fun _ => fun
  | [d] => { results := [.lit (.bool false)], args := [d] }
  | _ => none }
def FnExactClassOfWrongFalsely : Prop := fnExactClassOfRow.holds Try.pinned (OpenSpec.ofChange fnExactClassOfWrong)

/-- 'laws.FnExactSpeedOf': WHATEVER THE INPUT: true; the input reads as it did. -/
def fnExactSpeedOfSpec : ChangeSpec := { name := "fnExactSpeedOf", fn := fun _ => fun
  | [d] => { results := [.lit (.bool true)], args := [d] }
  | _ => none }
def fnExactSpeedOfRow : OpenClaim := { program := "ytnfgjflmpbbfdaa", sum := "4e5f78e5eb1443608805dc293a77c40a9a650c3d4af611c54a318227457fc6ac", func := "loop.example/g03317/laws.FnExactSpeedOf", spec := "fnExactSpeedOf", apart := false }
def FnExactSpeedOfSaid : Prop := fnExactSpeedOfRow.holds Try.pinned (OpenSpec.ofChange fnExactSpeedOfSpec)

/-- ITS FALSE NEIGHBOUR: 'it returns false'. Refute it at one input. -/
def fnExactSpeedOfWrong : ChangeSpec := { name := "fnExactSpeedOf", fn := fun _ => fun
  | [d] => { results := [.lit (.bool false)], args := [d] }
  | _ => none }
def FnExactSpeedOfWrongFalsely : Prop := fnExactSpeedOfRow.holds Try.pinned (OpenSpec.ofChange fnExactSpeedOfWrong)

/-- 'laws.FnExactCallOk': WHATEVER THE INPUT: true; the input reads as it did. -/
def fnExactCallOkSpec : ChangeSpec := { name := "fnExactCallOk", fn := fun _ => fun
  | [d] => { results := [.lit (.bool true)], args := [d] }
  | _ => none }
def fnExactCallOkRow : OpenClaim := { program := "ytnfgjflmpbbfdaa", sum := "4e5f78e5eb1443608805dc293a77c40a9a650c3d4af611c54a318227457fc6ac", func := "loop.example/g03317/laws.FnExactCallOk", spec := "fnExactCallOk", apart := false }
def FnExactCallOkSaid : Prop := fnExactCallOkRow.holds Try.pinned (OpenSpec.ofChange fnExactCallOkSpec)

/-- ITS FALSE NEIGHBOUR: 'it returns false'. Refute it at one input. -/
def fnExactCallOkWrong : ChangeSpec := { name := "fnExactCallOk", fn := fun _ => fun
  | [d] => { results := [.lit (.bool false)], args := [d] }
  | _ => none }
def FnExactCallOkWrongFalsely : Prop := fnExactCallOkRow.holds Try.pinned (OpenSpec.ofChange fnExactCallOkWrong)

/-- 'laws.FnExactRankOf': WHATEVER THE INPUT: true; the input reads as it did. -/
def fnExactRankOfSpec : ChangeSpec := { name := "fnExactRankOf", fn := fun _ => fun
  | [d1, d2] => { results := [.lit (.bool true)], args := [d1, d2] }
  | _ => none }
def fnExactRankOfRow : OpenClaim := { program := "ytnfgjflmpbbfdaa", sum := "4e5f78e5eb1443608805dc293a77c40a9a650c3d4af611c54a318227457fc6ac", func := "loop.example/g03317/laws.FnExactRankOf", spec := "fnExactRankOf", apart := false }
def FnExactRankOfSaid : Prop := fnExactRankOfRow.holds Try.pinned (OpenSpec.ofChange fnExactRankOfSpec)

/-- ITS FALSE NEIGHBOUR: 'it returns false'. Refute it at one input. -/
def fnExactRankOfWrong : ChangeSpec := { name := "fnExactRankOf", fn := fun _ => fun
  | [d1, d2] => { results := [.lit (.bool false)], args := [d1, d2] }
  | _ => none }
def FnExactRankOfWrongFalsely : Prop := fnExactRankOfRow.holds Try.pinned (OpenSpec.ofChange fnExactRankOfWrong)

/-- 'laws.FnExactIdsOf': WHATEVER THE INPUT: true; the input reads as it did. -/
def fnExactIdsOfSpec : ChangeSpec := { name := "fnExactIdsOf", fn := fun _ => fun
  | [d] => { results := [.lit (.bool true)], args := [d] }
  | _ => none }
def fnExactIdsOfRow : OpenClaim := { program := "ytnfgjflmpbbfdaa", sum := "4e5f78e5eb1443608805dc293a77c40a9a650c3d4af611c54a318227457fc6ac", func := "loop.example/g03317/laws.FnExactIdsOf", spec := "fnExactIdsOf", apart := false }
def FnExactIdsOfSaid : Prop := fnExactIdsOfRow.holds Try.pinned (OpenSpec.ofChange fnExactIdsOfSpec)

/-- ITS FALSE NEIGHBOUR: 'it returns false'. Refute it at one input. -/
def fnExactIdsOfWrong : ChangeSpec := { name := "fnExactIdsOf", fn := fun _ => fun
  | [d] => { results := [.lit (.bool false)], args := [d] }
  | _ => none }
def FnExactIdsOfWrongFalsely : Prop := fnExactIdsOfRow.holds Try.pinned (OpenSpec.ofChange fnExactIdsOfWrong)

/-- 'laws.FnExactDivideTrain': WHATEVER THE INPUT: true; the input reads as it did. -/
def fnExactDivideTrainSpec : ChangeSpec := { name := "fnExactDivideTrain", fn := fun _ => fun
  | [d1, d2] => { results := [.lit (.bool true)], args := [d1, d2] }
  | _ => none }
def fnExactDivideTrainRow : OpenClaim := { program := "ytnfgjflmpbbfdaa", sum := "4e5f78e5eb1443608805dc293a77c40a9a650c3d4af611c54a318227457fc6ac", func := "loop.example/g03317/laws.FnExactDivideTrain", spec := "fnExactDivideTrain", apart := false }
def FnExactDivideTrainSaid : Prop := fnExactDivideTrainRow.holds Try.pinned (OpenSpec.ofChange fnExactDivideTrainSpec)

/-- ITS FALSE NEIGHBOUR: 'it returns false'. Refute it at one input. -/
def fnExactDivideTrainWrong : ChangeSpec := { name := "fnExactDivideTrain", fn := fun _ => fun
  | [d1, d2] => { results := [.lit (.bool false)], args := [d1, d2] }
  | _ => none }
def FnExactDivideTrainWrongFalsely : Prop := fnExactDivideTrainRow.holds Try.pinned (OpenSpec.ofChange fnExactDivideTrainWrong)

/-- 'laws.FnCoupled': WHATEVER THE INPUT: true; the input reads as it did. -/
def fnCoupledSpec : ChangeSpec := { name := "fnCoupled", fn := fun _ => fun
  | [d] => { results := [.lit (.bool true)], args := [d] }
  | _ => none }
def fnCoupledRow : OpenClaim := { program := "ytnfgjflmpbbfdaa", sum := "4e5f78e5eb1443608805dc293a77c40a9a650c3d4af611c54a318227457fc6ac", func := "loop.example/g03317/laws.FnCoupled", spec := "fnCoupled", apart := false }
def FnCoupledSaid : Prop := fnCoupledRow.holds Try.pinned (OpenSpec.ofChange fnCoupledSpec)

/-- ITS FALSE NEIGHBOUR: 'it returns false'. Refute it at one input. -/
def fnCoupledWrong : ChangeSpec := { name := "fnCoupled", fn := fun _ => fun
  | [d] => { results := [.lit (.bool false)], args := [d] }
  | _ => none }
def FnCoupledWrongFalsely : Prop := fnCoupledRow.holds Try.pinned (OpenSpec.ofChange fnCoupledWrong)

/-- 'laws.FnExactCoupleTrains': WHATEVER THE INPUT: true; the input reads as it did. -/
def fnExactCoupleTrainsSpec : ChangeSpec := { name := "fnExactCoupleTrains", fn := fun _ => fun
  | [d1, d2] => { results := [.lit (.bool true)], args := [d1, d2] }
  | _ => none }
def fnExactCoupleTrainsRow : OpenClaim := { program := "ytnfgjflmpbbfdaa", sum := "4e5f78e5eb1443608805dc293a77c40a9a650c3d4af611c54a318227457fc6ac", func := "loop.example/g03317/laws.FnExactCoupleTrains", spec := "fnExactCoupleTrains", apart := false }
def FnExactCoupleTrainsSaid : Prop := fnExactCoupleTrainsRow.holds Try.pinned (OpenSpec.ofChange fnExactCoupleTrainsSpec)

/-- ITS FALSE NEIGHBOUR: 'it returns false'. Refute it at one input. -/
def fnExactCoupleTrainsWrong : ChangeSpec := { name := "fnExactCoupleTrains", fn := fun _ => fun
  | [d1, d2] => { results := [.lit (.bool false)], args := [d1, d2] }
  | _ => none }
def FnExactCoupleTrainsWrongFalsely : Prop := fnExactCoupleTrainsRow.holds Try.pinned (OpenSpec.ofChange fnExactCoupleTrainsWrong)

/-- 'laws.FnFits': WHATEVER THE INPUT: true; the input reads as it did. -/
def fnFitsSpec : ChangeSpec := { name := "fnFits", fn := fun _ => fun
  | [d] => { results := [.lit (.bool true)], args := [d] }
  | _ => none }
def fnFitsRow : OpenClaim := { program := "ytnfgjflmpbbfdaa", sum := "4e5f78e5eb1443608805dc293a77c40a9a650c3d4af611c54a318227457fc6ac", func := "loop.example/g03317/laws.FnFits", spec := "fnFits", apart := false }
def FnFitsSaid : Prop := fnFitsRow.holds Try.pinned (OpenSpec.ofChange fnFitsSpec)

/-- ITS FALSE NEIGHBOUR: 'it returns false'. Refute it at one input. -/
def fnFitsWrong : ChangeSpec := { name := "fnFits", fn := fun _ => fun
  | [d] => { results := [.lit (.bool false)], args := [d] }
  | _ => none }
def FnFitsWrongFalsely : Prop := fnFitsRow.holds Try.pinned (OpenSpec.ofChange fnFitsWrong)

/-- 'laws.FnExactReformTrain': WHATEVER THE INPUT: true; the input reads as it did. -/
def fnExactReformTrainSpec : ChangeSpec := { name := "fnExactReformTrain", fn := fun _ => fun
  | [d1, d2] => { results := [.lit (.bool true)], args := [d1, d2] }
  | _ => none }
def fnExactReformTrainRow : OpenClaim := { program := "ytnfgjflmpbbfdaa", sum := "4e5f78e5eb1443608805dc293a77c40a9a650c3d4af611c54a318227457fc6ac", func := "loop.example/g03317/laws.FnExactReformTrain", spec := "fnExactReformTrain", apart := false }
def FnExactReformTrainSaid : Prop := fnExactReformTrainRow.holds Try.pinned (OpenSpec.ofChange fnExactReformTrainSpec)

/-- ITS FALSE NEIGHBOUR: 'it returns false'. Refute it at one input. -/
def fnExactReformTrainWrong : ChangeSpec := { name := "fnExactReformTrain", fn := fun _ => fun
  | [d1, d2] => { results := [.lit (.bool false)], args := [d1, d2] }
  | _ => none }
def FnExactReformTrainWrongFalsely : Prop := fnExactReformTrainRow.holds Try.pinned (OpenSpec.ofChange fnExactReformTrainWrong)

/-- 'laws.FnExactComesBefore': WHATEVER THE INPUT: true; the input reads as it did. -/
def fnExactComesBeforeSpec : ChangeSpec := { name := "fnExactComesBefore", fn := fun _ => fun
  | [d1, d2, d3] => { results := [.lit (.bool true)], args := [d1, d2, d3] }
  | _ => none }
def fnExactComesBeforeRow : OpenClaim := { program := "ytnfgjflmpbbfdaa", sum := "4e5f78e5eb1443608805dc293a77c40a9a650c3d4af611c54a318227457fc6ac", func := "loop.example/g03317/laws.FnExactComesBefore", spec := "fnExactComesBefore", apart := false }
def FnExactComesBeforeSaid : Prop := fnExactComesBeforeRow.holds Try.pinned (OpenSpec.ofChange fnExactComesBeforeSpec)

/-- ITS FALSE NEIGHBOUR: 'it returns false'. Refute it at one input. -/
def fnExactComesBeforeWrong : ChangeSpec := { name := "fnExactComesBefore", fn := fun _ => fun
  | [d1, d2, d3] => { results := [.lit (.bool false)], args := [d1, d2, d3] }
  | _ => none }
def FnExactComesBeforeWrongFalsely : Prop := fnExactComesBeforeRow.holds Try.pinned (OpenSpec.ofChange fnExactComesBeforeWrong)

/-- 'laws.FnCallOrder': WHATEVER THE INPUT: true; the input reads as it did. -/
def fnCallOrderSpec : ChangeSpec := { name := "fnCallOrder", fn := fun _ => fun
  | [d] => { results := [.lit (.bool true)], args := [d] }
  | _ => none }
def fnCallOrderRow : OpenClaim := { program := "ytnfgjflmpbbfdaa", sum := "4e5f78e5eb1443608805dc293a77c40a9a650c3d4af611c54a318227457fc6ac", func := "loop.example/g03317/laws.FnCallOrder", spec := "fnCallOrder", unfollowed := true, recurses := true, apart := false }
def FnCallOrderSaid : Prop := fnCallOrderRow.holds Try.pinned (OpenSpec.ofChange fnCallOrderSpec)

/-- ITS FALSE NEIGHBOUR: 'it returns false'. Refute it at one input. -/
def fnCallOrderWrong : ChangeSpec := { name := "fnCallOrder", fn := fun _ => fun
  | [d] => { results := [.lit (.bool false)], args := [d] }
  | _ => none }
def FnCallOrderWrongFalsely : Prop := fnCallOrderRow.holds Try.pinned (OpenSpec.ofChange fnCallOrderWrong)

/-- 'laws.FnExactLockOk': WHATEVER THE INPUT: true; the input reads as it did. -/
def fnExactLockOkSpec : ChangeSpec := { name := "fnExactLockOk", fn := fun _ => fun
  | [d] => { results := [.lit (.bool true)], args := [d] }
  | _ => none }
def fnExactLockOkRow : OpenClaim := { program := "ytnfgjflmpbbfdaa", sum := "4e5f78e5eb1443608805dc293a77c40a9a650c3d4af611c54a318227457fc6ac", func := "loop.example/g03317/laws.FnExactLockOk", spec := "fnExactLockOk", apart := false }
def FnExactLockOkSaid : Prop := fnExactLockOkRow.holds Try.pinned (OpenSpec.ofChange fnExactLockOkSpec)

/-- ITS FALSE NEIGHBOUR: 'it returns false'. Refute it at one input. -/
def fnExactLockOkWrong : ChangeSpec := { name := "fnExactLockOk", fn := fun _ => fun
  | [d] => { results := [.lit (.bool false)], args := [d] }
  | _ => none }
def FnExactLockOkWrongFalsely : Prop := fnExactLockOkRow.holds Try.pinned (OpenSpec.ofChange fnExactLockOkWrong)

/-- 'laws.FnExactChamberLevel': WHATEVER THE INPUT: true; the input reads as it did. -/
def fnExactChamberLevelSpec : ChangeSpec := { name := "fnExactChamberLevel", fn := fun _ => fun
  | [d] => { results := [.lit (.bool true)], args := [d] }
  | _ => none }
def fnExactChamberLevelRow : OpenClaim := { program := "ytnfgjflmpbbfdaa", sum := "4e5f78e5eb1443608805dc293a77c40a9a650c3d4af611c54a318227457fc6ac", func := "loop.example/g03317/laws.FnExactChamberLevel", spec := "fnExactChamberLevel", apart := false }
def FnExactChamberLevelSaid : Prop := fnExactChamberLevelRow.holds Try.pinned (OpenSpec.ofChange fnExactChamberLevelSpec)

/-- ITS FALSE NEIGHBOUR: 'it returns false'. Refute it at one input. -/
def fnExactChamberLevelWrong : ChangeSpec := { name := "fnExactChamberLevel", fn := fun _ => fun
  | [d] => { results := [.lit (.bool false)], args := [d] }
  | _ => none }
def FnExactChamberLevelWrongFalsely : Prop := fnExactChamberLevelRow.holds Try.pinned (OpenSpec.ofChange fnExactChamberLevelWrong)

/-- 'laws.FnExactFitsChamber': WHATEVER THE INPUT: true; the input reads as it did. -/
def fnExactFitsChamberSpec : ChangeSpec := { name := "fnExactFitsChamber", fn := fun _ => fun
  | [d1, d2] => { results := [.lit (.bool true)], args := [d1, d2] }
  | _ => none }
def fnExactFitsChamberRow : OpenClaim := { program := "ytnfgjflmpbbfdaa", sum := "4e5f78e5eb1443608805dc293a77c40a9a650c3d4af611c54a318227457fc6ac", func := "loop.example/g03317/laws.FnExactFitsChamber", spec := "fnExactFitsChamber", apart := false }
def FnExactFitsChamberSaid : Prop := fnExactFitsChamberRow.holds Try.pinned (OpenSpec.ofChange fnExactFitsChamberSpec)

/-- ITS FALSE NEIGHBOUR: 'it returns false'. Refute it at one input. -/
def fnExactFitsChamberWrong : ChangeSpec := { name := "fnExactFitsChamber", fn := fun _ => fun
  | [d1, d2] => { results := [.lit (.bool false)], args := [d1, d2] }
  | _ => none }
def FnExactFitsChamberWrongFalsely : Prop := fnExactFitsChamberRow.holds Try.pinned (OpenSpec.ofChange fnExactFitsChamberWrong)

/-- 'laws.FnExactShutGate': WHATEVER THE INPUT: true; the input reads as it did. -/
def fnExactShutGateSpec : ChangeSpec := { name := "fnExactShutGate", fn := fun _ => fun
  | [d] => { results := [.lit (.bool true)], args := [d] }
  | _ => none }
def fnExactShutGateRow : OpenClaim := { program := "ytnfgjflmpbbfdaa", sum := "4e5f78e5eb1443608805dc293a77c40a9a650c3d4af611c54a318227457fc6ac", func := "loop.example/g03317/laws.FnExactShutGate", spec := "fnExactShutGate", apart := false }
def FnExactShutGateSaid : Prop := fnExactShutGateRow.holds Try.pinned (OpenSpec.ofChange fnExactShutGateSpec)

/-- ITS FALSE NEIGHBOUR: 'it returns false'. Refute it at one input. -/
def fnExactShutGateWrong : ChangeSpec := { name := "fnExactShutGate", fn := fun _ => fun
  | [d] => { results := [.lit (.bool false)], args := [d] }
  | _ => none }
def FnExactShutGateWrongFalsely : Prop := fnExactShutGateRow.holds Try.pinned (OpenSpec.ofChange fnExactShutGateWrong)

/-- 'laws.FnDepthOverSills': WHATEVER THE INPUT: true; the input reads as it did. -/
def fnDepthOverSillsSpec : ChangeSpec := { name := "fnDepthOverSills", fn := fun _ => fun
  | [d] => { results := [.lit (.bool true)], args := [d] }
  | _ => none }
def fnDepthOverSillsRow : OpenClaim := { program := "ytnfgjflmpbbfdaa", sum := "4e5f78e5eb1443608805dc293a77c40a9a650c3d4af611c54a318227457fc6ac", func := "loop.example/g03317/laws.FnDepthOverSills", spec := "fnDepthOverSills", apart := false }
def FnDepthOverSillsSaid : Prop := fnDepthOverSillsRow.holds Try.pinned (OpenSpec.ofChange fnDepthOverSillsSpec)

/-- ITS FALSE NEIGHBOUR: 'it returns false'. Refute it at one input. -/
def fnDepthOverSillsWrong : ChangeSpec := { name := "fnDepthOverSills", fn := fun _ => fun
  | [d] => { results := [.lit (.bool false)], args := [d] }
  | _ => none }
def FnDepthOverSillsWrongFalsely : Prop := fnDepthOverSillsRow.holds Try.pinned (OpenSpec.ofChange fnDepthOverSillsWrong)

/-- 'laws.FnExactBestEntry': WHATEVER THE INPUT: true; the input reads as it did. -/
def fnExactBestEntrySpec : ChangeSpec := { name := "fnExactBestEntry", fn := fun _ => fun
  | [d1, d2] => { results := [.lit (.bool true)], args := [d1, d2] }
  | _ => none }
def fnExactBestEntryRow : OpenClaim := { program := "ytnfgjflmpbbfdaa", sum := "4e5f78e5eb1443608805dc293a77c40a9a650c3d4af611c54a318227457fc6ac", func := "loop.example/g03317/laws.FnExactBestEntry", spec := "fnExactBestEntry", apart := false }
def FnExactBestEntrySaid : Prop := fnExactBestEntryRow.holds Try.pinned (OpenSpec.ofChange fnExactBestEntrySpec)

/-- ITS FALSE NEIGHBOUR: 'it returns false'. Refute it at one input. -/
def fnExactBestEntryWrong : ChangeSpec := { name := "fnExactBestEntry", fn := fun _ => fun
  | [d1, d2] => { results := [.lit (.bool false)], args := [d1, d2] }
  | _ => none }
def FnExactBestEntryWrongFalsely : Prop := fnExactBestEntryRow.holds Try.pinned (OpenSpec.ofChange fnExactBestEntryWrong)

/-- 'laws.FnExactMayEnter': WHATEVER THE INPUT: true; the input reads as it did. -/
def fnExactMayEnterSpec : ChangeSpec := { name := "fnExactMayEnter", fn := fun _ => fun
  | [d1, d2, d3] => { results := [.lit (.bool true)], args := [d1, d2, d3] }
  | _ => none }
def fnExactMayEnterRow : OpenClaim := { program := "ytnfgjflmpbbfdaa", sum := "4e5f78e5eb1443608805dc293a77c40a9a650c3d4af611c54a318227457fc6ac", func := "loop.example/g03317/laws.FnExactMayEnter", spec := "fnExactMayEnter", apart := false }
def FnExactMayEnterSaid : Prop := fnExactMayEnterRow.holds Try.pinned (OpenSpec.ofChange fnExactMayEnterSpec)

/-- ITS FALSE NEIGHBOUR: 'it returns false'. Refute it at one input. -/
def fnExactMayEnterWrong : ChangeSpec := { name := "fnExactMayEnter", fn := fun _ => fun
  | [d1, d2, d3] => { results := [.lit (.bool false)], args := [d1, d2, d3] }
  | _ => none }
def FnExactMayEnterWrongFalsely : Prop := fnExactMayEnterRow.holds Try.pinned (OpenSpec.ofChange fnExactMayEnterWrong)

/-- 'laws.FnExactOpenGate': WHATEVER THE INPUT: true; the input reads as it did. -/
def fnExactOpenGateSpec : ChangeSpec := { name := "fnExactOpenGate", fn := fun _ => fun
  | [d1, d2, d3, d4] => { results := [.lit (.bool true)], args := [d1, d2, d3, d4] }
  | _ => none }
def fnExactOpenGateRow : OpenClaim := { program := "ytnfgjflmpbbfdaa", sum := "4e5f78e5eb1443608805dc293a77c40a9a650c3d4af611c54a318227457fc6ac", func := "loop.example/g03317/laws.FnExactOpenGate", spec := "fnExactOpenGate", apart := false }
def FnExactOpenGateSaid : Prop := fnExactOpenGateRow.holds Try.pinned (OpenSpec.ofChange fnExactOpenGateSpec)

/-- ITS FALSE NEIGHBOUR: 'it returns false'. Refute it at one input. -/
def fnExactOpenGateWrong : ChangeSpec := { name := "fnExactOpenGate", fn := fun _ => fun
  | [d1, d2, d3, d4] => { results := [.lit (.bool false)], args := [d1, d2, d3, d4] }
  | _ => none }
def FnExactOpenGateWrongFalsely : Prop := fnExactOpenGateRow.holds Try.pinned (OpenSpec.ofChange fnExactOpenGateWrong)

/-- 'laws.FnExactLeaveLock': WHATEVER THE INPUT: true; the input reads as it did. -/
def fnExactLeaveLockSpec : ChangeSpec := { name := "fnExactLeaveLock", fn := fun _ => fun
  | [d1, d2] => { results := [.lit (.bool true)], args := [d1, d2] }
  | _ => none }
def fnExactLeaveLockRow : OpenClaim := { program := "ytnfgjflmpbbfdaa", sum := "4e5f78e5eb1443608805dc293a77c40a9a650c3d4af611c54a318227457fc6ac", func := "loop.example/g03317/laws.FnExactLeaveLock", spec := "fnExactLeaveLock", apart := false }
def FnExactLeaveLockSaid : Prop := fnExactLeaveLockRow.holds Try.pinned (OpenSpec.ofChange fnExactLeaveLockSpec)

/-- ITS FALSE NEIGHBOUR: 'it returns false'. Refute it at one input. -/
def fnExactLeaveLockWrong : ChangeSpec := { name := "fnExactLeaveLock", fn := fun _ => fun
  | [d1, d2] => { results := [.lit (.bool false)], args := [d1, d2] }
  | _ => none }
def FnExactLeaveLockWrongFalsely : Prop := fnExactLeaveLockRow.holds Try.pinned (OpenSpec.ofChange fnExactLeaveLockWrong)

/-- 'laws.FnExactFillLock': WHATEVER THE INPUT: true; the input reads as it did. -/
def fnExactFillLockSpec : ChangeSpec := { name := "fnExactFillLock", fn := fun _ => fun
  | [d1, d2] => { results := [.lit (.bool true)], args := [d1, d2] }
  | _ => none }
def fnExactFillLockRow : OpenClaim := { program := "ytnfgjflmpbbfdaa", sum := "4e5f78e5eb1443608805dc293a77c40a9a650c3d4af611c54a318227457fc6ac", func := "loop.example/g03317/laws.FnExactFillLock", spec := "fnExactFillLock", apart := false }
def FnExactFillLockSaid : Prop := fnExactFillLockRow.holds Try.pinned (OpenSpec.ofChange fnExactFillLockSpec)

/-- ITS FALSE NEIGHBOUR: 'it returns false'. Refute it at one input. -/
def fnExactFillLockWrong : ChangeSpec := { name := "fnExactFillLock", fn := fun _ => fun
  | [d1, d2] => { results := [.lit (.bool false)], args := [d1, d2] }
  | _ => none }
def FnExactFillLockWrongFalsely : Prop := fnExactFillLockRow.holds Try.pinned (OpenSpec.ofChange fnExactFillLockWrong)

/-- 'laws.FnExactDrainLock': WHATEVER THE INPUT: true; the input reads as it did. -/
def fnExactDrainLockSpec : ChangeSpec := { name := "fnExactDrainLock", fn := fun _ => fun
  | [d1, d2] => { results := [.lit (.bool true)], args := [d1, d2] }
  | _ => none }
def fnExactDrainLockRow : OpenClaim := { program := "ytnfgjflmpbbfdaa", sum := "4e5f78e5eb1443608805dc293a77c40a9a650c3d4af611c54a318227457fc6ac", func := "loop.example/g03317/laws.FnExactDrainLock", spec := "fnExactDrainLock", apart := false }
def FnExactDrainLockSaid : Prop := fnExactDrainLockRow.holds Try.pinned (OpenSpec.ofChange fnExactDrainLockSpec)

/-- ITS FALSE NEIGHBOUR: 'it returns false'. Refute it at one input. -/
def fnExactDrainLockWrong : ChangeSpec := { name := "fnExactDrainLock", fn := fun _ => fun
  | [d1, d2] => { results := [.lit (.bool false)], args := [d1, d2] }
  | _ => none }
def FnExactDrainLockWrongFalsely : Prop := fnExactDrainLockRow.holds Try.pinned (OpenSpec.ofChange fnExactDrainLockWrong)

/-- 'laws.FnExactEnterLock': WHATEVER THE INPUT: true; the input reads as it did. -/
def fnExactEnterLockSpec : ChangeSpec := { name := "fnExactEnterLock", fn := fun _ => fun
  | [d1, d2, d3] => { results := [.lit (.bool true)], args := [d1, d2, d3] }
  | _ => none }
def fnExactEnterLockRow : OpenClaim := { program := "ytnfgjflmpbbfdaa", sum := "4e5f78e5eb1443608805dc293a77c40a9a650c3d4af611c54a318227457fc6ac", func := "loop.example/g03317/laws.FnExactEnterLock", spec := "fnExactEnterLock", apart := false }
def FnExactEnterLockSaid : Prop := fnExactEnterLockRow.holds Try.pinned (OpenSpec.ofChange fnExactEnterLockSpec)

/-- ITS FALSE NEIGHBOUR: 'it returns false'. Refute it at one input. -/
def fnExactEnterLockWrong : ChangeSpec := { name := "fnExactEnterLock", fn := fun _ => fun
  | [d1, d2, d3] => { results := [.lit (.bool false)], args := [d1, d2, d3] }
  | _ => none }
def FnExactEnterLockWrongFalsely : Prop := fnExactEnterLockRow.holds Try.pinned (OpenSpec.ofChange fnExactEnterLockWrong)

/- THE SECOND FORM. 'bulk': how many values and letters a reading holds, each counted each time it is reached (what is shared counts as often as it is met; a slice's spare places count too). A statement '..UptoSaid' is the law's where the arguments, and the package variables that the reading takes, are together of bulk at most 1048576: NARROWER than '..Said'. Prove '..Said' where nothing that the law and all that it calls make is longer than what came in: it says more and counts as full. Else prove '..UptoSaid'. A law counts once. -/
mutual
def uptoBulk {H : Type} : DataW H → Nat
  | .lit (.string bytes) => bytes.length + 1
  | .lit _ => 1
  | .nil => 1
  | .ptr d => uptoBulk d + 1
  | .slice elems spare => uptoBulkAll elems + uptoBulkAll spare + 1
  | .agg parts => uptoBulkAll parts + 1
  | .iface _ d => uptoBulk d + 1
  | .map entries => uptoBulkEntries entries + 1
  | .held _ => 1
def uptoBulkAll {H : Type} : List (DataW H) → Nat
  | [] => 0
  | d :: r => uptoBulk d + uptoBulkAll r
def uptoBulkEntries {H : Type} : List (Lit × DataW H) → Nat
  | [] => 0
  | x :: r => uptoBulkEntry x + uptoBulkEntries r
def uptoBulkEntry {H : Type} : Lit × DataW H → Nat
  | (.string bytes, d) => bytes.length + uptoBulk d + 1
  | (_, d) => uptoBulk d + 1
 end
def uptoSmall : (H : Type) → List (DataW H) → Bool := fun _ ds => decide (uptoBulkAll ds ≤ 1048576)
def OpenSpec.upto (s : _root_.Go.ChangeSpec) : _root_.Go.OpenSpec := { _root_.Go.OpenSpec.ofChange s with cond := some uptoSmall }

/-- 'laws.FnBestEntry', WHERE WHAT IT READS IS OF BULK AT MOST 1048576: true; the input reads as it did. -/
def fnBestEntryUptoRow : OpenClaim := { program := "ytnfgjflmpbbfdaa", sum := "4e5f78e5eb1443608805dc293a77c40a9a650c3d4af611c54a318227457fc6ac", func := "loop.example/g03317/laws.FnBestEntry", spec := "fnBestEntry", apart := false, narrowed := true }
def FnBestEntryUptoSaid : Prop := fnBestEntryUptoRow.holds Try.pinned (OpenSpec.upto fnBestEntrySpec)

/-- 'laws.FnNobodyWaits', WHERE WHAT IT READS IS OF BULK AT MOST 1048576: true; the input reads as it did. -/
def fnNobodyWaitsUptoRow : OpenClaim := { program := "ytnfgjflmpbbfdaa", sum := "4e5f78e5eb1443608805dc293a77c40a9a650c3d4af611c54a318227457fc6ac", func := "loop.example/g03317/laws.FnNobodyWaits", spec := "fnNobodyWaits", apart := false, narrowed := true }
def FnNobodyWaitsUptoSaid : Prop := fnNobodyWaitsUptoRow.holds Try.pinned (OpenSpec.upto fnNobodyWaitsSpec)

/-- 'laws.FnReformed', WHERE WHAT IT READS IS OF BULK AT MOST 1048576: true; the input reads as it did. -/
def fnReformedUptoRow : OpenClaim := { program := "ytnfgjflmpbbfdaa", sum := "4e5f78e5eb1443608805dc293a77c40a9a650c3d4af611c54a318227457fc6ac", func := "loop.example/g03317/laws.FnReformed", spec := "fnReformed", apart := false, narrowed := true }
def FnReformedUptoSaid : Prop := fnReformedUptoRow.holds Try.pinned (OpenSpec.upto fnReformedSpec)

/-- 'laws.FnExactTrainOk', WHERE WHAT IT READS IS OF BULK AT MOST 1048576: true; the input reads as it did. -/
def fnExactTrainOkUptoRow : OpenClaim := { program := "ytnfgjflmpbbfdaa", sum := "4e5f78e5eb1443608805dc293a77c40a9a650c3d4af611c54a318227457fc6ac", func := "loop.example/g03317/laws.FnExactTrainOk", spec := "fnExactTrainOk", apart := false, narrowed := true }
def FnExactTrainOkUptoSaid : Prop := fnExactTrainOkUptoRow.holds Try.pinned (OpenSpec.upto fnExactTrainOkSpec)

/-- 'laws.FnExactLengthOf', WHERE WHAT IT READS IS OF BULK AT MOST 1048576: true; the input reads as it did. -/
def fnExactLengthOfUptoRow : OpenClaim := { program := "ytnfgjflmpbbfdaa", sum := "4e5f78e5eb1443608805dc293a77c40a9a650c3d4af611c54a318227457fc6ac", func := "loop.example/g03317/laws.FnExactLengthOf", spec := "fnExactLengthOf", apart := false, narrowed := true }
def FnExactLengthOfUptoSaid : Prop := fnExactLengthOfUptoRow.holds Try.pinned (OpenSpec.upto fnExactLengthOfSpec)

/-- 'laws.FnLockage', WHERE WHAT IT READS IS OF BULK AT MOST 1048576: true; the input reads as it did. -/
def fnLockageUptoRow : OpenClaim := { program := "ytnfgjflmpbbfdaa", sum := "4e5f78e5eb1443608805dc293a77c40a9a650c3d4af611c54a318227457fc6ac", func := "loop.example/g03317/laws.FnLockage", spec := "fnLockage", apart := false, narrowed := true }
def FnLockageUptoSaid : Prop := fnLockageUptoRow.holds Try.pinned (OpenSpec.upto fnLockageSpec)

/-- 'laws.FnExactWidthOf', WHERE WHAT IT READS IS OF BULK AT MOST 1048576: true; the input reads as it did. -/
def fnExactWidthOfUptoRow : OpenClaim := { program := "ytnfgjflmpbbfdaa", sum := "4e5f78e5eb1443608805dc293a77c40a9a650c3d4af611c54a318227457fc6ac", func := "loop.example/g03317/laws.FnExactWidthOf", spec := "fnExactWidthOf", apart := false, narrowed := true }
def FnExactWidthOfUptoSaid : Prop := fnExactWidthOfUptoRow.holds Try.pinned (OpenSpec.upto fnExactWidthOfSpec)

/-- 'laws.FnExactDraughtOf', WHERE WHAT IT READS IS OF BULK AT MOST 1048576: true; the input reads as it did. -/
def fnExactDraughtOfUptoRow : OpenClaim := { program := "ytnfgjflmpbbfdaa", sum := "4e5f78e5eb1443608805dc293a77c40a9a650c3d4af611c54a318227457fc6ac", func := "loop.example/g03317/laws.FnExactDraughtOf", spec := "fnExactDraughtOf", apart := false, narrowed := true }
def FnExactDraughtOfUptoSaid : Prop := fnExactDraughtOfUptoRow.holds Try.pinned (OpenSpec.upto fnExactDraughtOfSpec)

/-- 'laws.FnExactClassOf', WHERE WHAT IT READS IS OF BULK AT MOST 1048576: true; the input reads as it did. -/
def fnExactClassOfUptoRow : OpenClaim := { program := "ytnfgjflmpbbfdaa", sum := "4e5f78e5eb1443608805dc293a77c40a9a650c3d4af611c54a318227457fc6ac", func := "loop.example/g03317/laws.FnExactClassOf", spec := "fnExactClassOf", apart := false, narrowed := true }
def FnExactClassOfUptoSaid : Prop := fnExactClassOfUptoRow.holds Try.pinned (OpenSpec.upto fnExactClassOfSpec)

/-- 'laws.FnExactSpeedOf', WHERE WHAT IT READS IS OF BULK AT MOST 1048576: true; the input reads as it did. -/
def fnExactSpeedOfUptoRow : OpenClaim := { program := "ytnfgjflmpbbfdaa", sum := "4e5f78e5eb1443608805dc293a77c40a9a650c3d4af611c54a318227457fc6ac", func := "loop.example/g03317/laws.FnExactSpeedOf", spec := "fnExactSpeedOf", apart := false, narrowed := true }
def FnExactSpeedOfUptoSaid : Prop := fnExactSpeedOfUptoRow.holds Try.pinned (OpenSpec.upto fnExactSpeedOfSpec)

/-- 'laws.FnExactCallOk', WHERE WHAT IT READS IS OF BULK AT MOST 1048576: true; the input reads as it did. -/
def fnExactCallOkUptoRow : OpenClaim := { program := "ytnfgjflmpbbfdaa", sum := "4e5f78e5eb1443608805dc293a77c40a9a650c3d4af611c54a318227457fc6ac", func := "loop.example/g03317/laws.FnExactCallOk", spec := "fnExactCallOk", apart := false, narrowed := true }
def FnExactCallOkUptoSaid : Prop := fnExactCallOkUptoRow.holds Try.pinned (OpenSpec.upto fnExactCallOkSpec)

/-- 'laws.FnExactRankOf', WHERE WHAT IT READS IS OF BULK AT MOST 1048576: true; the input reads as it did. -/
def fnExactRankOfUptoRow : OpenClaim := { program := "ytnfgjflmpbbfdaa", sum := "4e5f78e5eb1443608805dc293a77c40a9a650c3d4af611c54a318227457fc6ac", func := "loop.example/g03317/laws.FnExactRankOf", spec := "fnExactRankOf", apart := false, narrowed := true }
def FnExactRankOfUptoSaid : Prop := fnExactRankOfUptoRow.holds Try.pinned (OpenSpec.upto fnExactRankOfSpec)

/-- 'laws.FnExactIdsOf', WHERE WHAT IT READS IS OF BULK AT MOST 1048576: true; the input reads as it did. -/
def fnExactIdsOfUptoRow : OpenClaim := { program := "ytnfgjflmpbbfdaa", sum := "4e5f78e5eb1443608805dc293a77c40a9a650c3d4af611c54a318227457fc6ac", func := "loop.example/g03317/laws.FnExactIdsOf", spec := "fnExactIdsOf", apart := false, narrowed := true }
def FnExactIdsOfUptoSaid : Prop := fnExactIdsOfUptoRow.holds Try.pinned (OpenSpec.upto fnExactIdsOfSpec)

/-- 'laws.FnExactDivideTrain', WHERE WHAT IT READS IS OF BULK AT MOST 1048576: true; the input reads as it did. -/
def fnExactDivideTrainUptoRow : OpenClaim := { program := "ytnfgjflmpbbfdaa", sum := "4e5f78e5eb1443608805dc293a77c40a9a650c3d4af611c54a318227457fc6ac", func := "loop.example/g03317/laws.FnExactDivideTrain", spec := "fnExactDivideTrain", apart := false, narrowed := true }
def FnExactDivideTrainUptoSaid : Prop := fnExactDivideTrainUptoRow.holds Try.pinned (OpenSpec.upto fnExactDivideTrainSpec)

/-- 'laws.FnCoupled', WHERE WHAT IT READS IS OF BULK AT MOST 1048576: true; the input reads as it did. -/
def fnCoupledUptoRow : OpenClaim := { program := "ytnfgjflmpbbfdaa", sum := "4e5f78e5eb1443608805dc293a77c40a9a650c3d4af611c54a318227457fc6ac", func := "loop.example/g03317/laws.FnCoupled", spec := "fnCoupled", apart := false, narrowed := true }
def FnCoupledUptoSaid : Prop := fnCoupledUptoRow.holds Try.pinned (OpenSpec.upto fnCoupledSpec)

/-- 'laws.FnExactCoupleTrains', WHERE WHAT IT READS IS OF BULK AT MOST 1048576: true; the input reads as it did. -/
def fnExactCoupleTrainsUptoRow : OpenClaim := { program := "ytnfgjflmpbbfdaa", sum := "4e5f78e5eb1443608805dc293a77c40a9a650c3d4af611c54a318227457fc6ac", func := "loop.example/g03317/laws.FnExactCoupleTrains", spec := "fnExactCoupleTrains", apart := false, narrowed := true }
def FnExactCoupleTrainsUptoSaid : Prop := fnExactCoupleTrainsUptoRow.holds Try.pinned (OpenSpec.upto fnExactCoupleTrainsSpec)

/-- 'laws.FnFits', WHERE WHAT IT READS IS OF BULK AT MOST 1048576: true; the input reads as it did. -/
def fnFitsUptoRow : OpenClaim := { program := "ytnfgjflmpbbfdaa", sum := "4e5f78e5eb1443608805dc293a77c40a9a650c3d4af611c54a318227457fc6ac", func := "loop.example/g03317/laws.FnFits", spec := "fnFits", apart := false, narrowed := true }
def FnFitsUptoSaid : Prop := fnFitsUptoRow.holds Try.pinned (OpenSpec.upto fnFitsSpec)

/-- 'laws.FnExactReformTrain', WHERE WHAT IT READS IS OF BULK AT MOST 1048576: true; the input reads as it did. -/
def fnExactReformTrainUptoRow : OpenClaim := { program := "ytnfgjflmpbbfdaa", sum := "4e5f78e5eb1443608805dc293a77c40a9a650c3d4af611c54a318227457fc6ac", func := "loop.example/g03317/laws.FnExactReformTrain", spec := "fnExactReformTrain", apart := false, narrowed := true }
def FnExactReformTrainUptoSaid : Prop := fnExactReformTrainUptoRow.holds Try.pinned (OpenSpec.upto fnExactReformTrainSpec)

/-- 'laws.FnExactComesBefore', WHERE WHAT IT READS IS OF BULK AT MOST 1048576: true; the input reads as it did. -/
def fnExactComesBeforeUptoRow : OpenClaim := { program := "ytnfgjflmpbbfdaa", sum := "4e5f78e5eb1443608805dc293a77c40a9a650c3d4af611c54a318227457fc6ac", func := "loop.example/g03317/laws.FnExactComesBefore", spec := "fnExactComesBefore", apart := false, narrowed := true }
def FnExactComesBeforeUptoSaid : Prop := fnExactComesBeforeUptoRow.holds Try.pinned (OpenSpec.upto fnExactComesBeforeSpec)

/-- 'laws.FnCallOrder', WHERE WHAT IT READS IS OF BULK AT MOST 1048576: true; the input reads as it did. -/
def fnCallOrderUptoRow : OpenClaim := { program := "ytnfgjflmpbbfdaa", sum := "4e5f78e5eb1443608805dc293a77c40a9a650c3d4af611c54a318227457fc6ac", func := "loop.example/g03317/laws.FnCallOrder", spec := "fnCallOrder", unfollowed := true, recurses := true, apart := false, narrowed := true }
def FnCallOrderUptoSaid : Prop := fnCallOrderUptoRow.holds Try.pinned (OpenSpec.upto fnCallOrderSpec)

/-- 'laws.FnExactLockOk', WHERE WHAT IT READS IS OF BULK AT MOST 1048576: true; the input reads as it did. -/
def fnExactLockOkUptoRow : OpenClaim := { program := "ytnfgjflmpbbfdaa", sum := "4e5f78e5eb1443608805dc293a77c40a9a650c3d4af611c54a318227457fc6ac", func := "loop.example/g03317/laws.FnExactLockOk", spec := "fnExactLockOk", apart := false, narrowed := true }
def FnExactLockOkUptoSaid : Prop := fnExactLockOkUptoRow.holds Try.pinned (OpenSpec.upto fnExactLockOkSpec)

/-- 'laws.FnExactChamberLevel', WHERE WHAT IT READS IS OF BULK AT MOST 1048576: true; the input reads as it did. -/
def fnExactChamberLevelUptoRow : OpenClaim := { program := "ytnfgjflmpbbfdaa", sum := "4e5f78e5eb1443608805dc293a77c40a9a650c3d4af611c54a318227457fc6ac", func := "loop.example/g03317/laws.FnExactChamberLevel", spec := "fnExactChamberLevel", apart := false, narrowed := true }
def FnExactChamberLevelUptoSaid : Prop := fnExactChamberLevelUptoRow.holds Try.pinned (OpenSpec.upto fnExactChamberLevelSpec)

/-- 'laws.FnExactFitsChamber', WHERE WHAT IT READS IS OF BULK AT MOST 1048576: true; the input reads as it did. -/
def fnExactFitsChamberUptoRow : OpenClaim := { program := "ytnfgjflmpbbfdaa", sum := "4e5f78e5eb1443608805dc293a77c40a9a650c3d4af611c54a318227457fc6ac", func := "loop.example/g03317/laws.FnExactFitsChamber", spec := "fnExactFitsChamber", apart := false, narrowed := true }
def FnExactFitsChamberUptoSaid : Prop := fnExactFitsChamberUptoRow.holds Try.pinned (OpenSpec.upto fnExactFitsChamberSpec)

/-- 'laws.FnExactShutGate', WHERE WHAT IT READS IS OF BULK AT MOST 1048576: true; the input reads as it did. -/
def fnExactShutGateUptoRow : OpenClaim := { program := "ytnfgjflmpbbfdaa", sum := "4e5f78e5eb1443608805dc293a77c40a9a650c3d4af611c54a318227457fc6ac", func := "loop.example/g03317/laws.FnExactShutGate", spec := "fnExactShutGate", apart := false, narrowed := true }
def FnExactShutGateUptoSaid : Prop := fnExactShutGateUptoRow.holds Try.pinned (OpenSpec.upto fnExactShutGateSpec)

/-- 'laws.FnDepthOverSills', WHERE WHAT IT READS IS OF BULK AT MOST 1048576: true; the input reads as it did. -/
def fnDepthOverSillsUptoRow : OpenClaim := { program := "ytnfgjflmpbbfdaa", sum := "4e5f78e5eb1443608805dc293a77c40a9a650c3d4af611c54a318227457fc6ac", func := "loop.example/g03317/laws.FnDepthOverSills", spec := "fnDepthOverSills", apart := false, narrowed := true }
def FnDepthOverSillsUptoSaid : Prop := fnDepthOverSillsUptoRow.holds Try.pinned (OpenSpec.upto fnDepthOverSillsSpec)

/-- 'laws.FnExactBestEntry', WHERE WHAT IT READS IS OF BULK AT MOST 1048576: true; the input reads as it did. -/
def fnExactBestEntryUptoRow : OpenClaim := { program := "ytnfgjflmpbbfdaa", sum := "4e5f78e5eb1443608805dc293a77c40a9a650c3d4af611c54a318227457fc6ac", func := "loop.example/g03317/laws.FnExactBestEntry", spec := "fnExactBestEntry", apart := false, narrowed := true }
def FnExactBestEntryUptoSaid : Prop := fnExactBestEntryUptoRow.holds Try.pinned (OpenSpec.upto fnExactBestEntrySpec)

/-- 'laws.FnExactMayEnter', WHERE WHAT IT READS IS OF BULK AT MOST 1048576: true; the input reads as it did. -/
def fnExactMayEnterUptoRow : OpenClaim := { program := "ytnfgjflmpbbfdaa", sum := "4e5f78e5eb1443608805dc293a77c40a9a650c3d4af611c54a318227457fc6ac", func := "loop.example/g03317/laws.FnExactMayEnter", spec := "fnExactMayEnter", apart := false, narrowed := true }
def FnExactMayEnterUptoSaid : Prop := fnExactMayEnterUptoRow.holds Try.pinned (OpenSpec.upto fnExactMayEnterSpec)

/-- 'laws.FnExactOpenGate', WHERE WHAT IT READS IS OF BULK AT MOST 1048576: true; the input reads as it did. -/
def fnExactOpenGateUptoRow : OpenClaim := { program := "ytnfgjflmpbbfdaa", sum := "4e5f78e5eb1443608805dc293a77c40a9a650c3d4af611c54a318227457fc6ac", func := "loop.example/g03317/laws.FnExactOpenGate", spec := "fnExactOpenGate", apart := false, narrowed := true }
def FnExactOpenGateUptoSaid : Prop := fnExactOpenGateUptoRow.holds Try.pinned (OpenSpec.upto fnExactOpenGateSpec)

/-- 'laws.FnExactLeaveLock', WHERE WHAT IT READS IS OF BULK AT MOST 1048576: true; the input reads as it did. -/
def fnExactLeaveLockUptoRow : OpenClaim := { program := "ytnfgjflmpbbfdaa", sum := "4e5f78e5eb1443608805dc293a77c40a9a650c3d4af611c54a318227457fc6ac", func := "loop.example/g03317/laws.FnExactLeaveLock", spec := "fnExactLeaveLock", apart := false, narrowed := true }
def FnExactLeaveLockUptoSaid : Prop := fnExactLeaveLockUptoRow.holds Try.pinned (OpenSpec.upto fnExactLeaveLockSpec)

/-- 'laws.FnExactFillLock', WHERE WHAT IT READS IS OF BULK AT MOST 1048576: true; the input reads as it did. -/
def fnExactFillLockUptoRow : OpenClaim := { program := "ytnfgjflmpbbfdaa", sum := "4e5f78e5eb1443608805dc293a77c40a9a650c3d4af611c54a318227457fc6ac", func := "loop.example/g03317/laws.FnExactFillLock", spec := "fnExactFillLock", apart := false, narrowed := true }
def FnExactFillLockUptoSaid : Prop := fnExactFillLockUptoRow.holds Try.pinned (OpenSpec.upto fnExactFillLockSpec)

/-- 'laws.FnExactDrainLock', WHERE WHAT IT READS IS OF BULK AT MOST 1048576: true; the input reads as it did. -/
def fnExactDrainLockUptoRow : OpenClaim := { program := "ytnfgjflmpbbfdaa", sum := "4e5f78e5eb1443608805dc293a77c40a9a650c3d4af611c54a318227457fc6ac", func := "loop.example/g03317/laws.FnExactDrainLock", spec := "fnExactDrainLock", apart := false, narrowed := true }
def FnExactDrainLockUptoSaid : Prop := fnExactDrainLockUptoRow.holds Try.pinned (OpenSpec.upto fnExactDrainLockSpec)

/-- 'laws.FnExactEnterLock', WHERE WHAT IT READS IS OF BULK AT MOST 1048576: true; the input reads as it did. -/
def fnExactEnterLockUptoRow : OpenClaim := { program := "ytnfgjflmpbbfdaa", sum := "4e5f78e5eb1443608805dc293a77c40a9a650c3d4af611c54a318227457fc6ac", func := "loop.example/g03317/laws.FnExactEnterLock", spec := "fnExactEnterLock", apart := false, narrowed := true }
def FnExactEnterLockUptoSaid : Prop := fnExactEnterLockUptoRow.holds Try.pinned (OpenSpec.upto fnExactEnterLockSpec)

end Rows
end Go.Proofs.Ytnfgjflmpbbfdaa
