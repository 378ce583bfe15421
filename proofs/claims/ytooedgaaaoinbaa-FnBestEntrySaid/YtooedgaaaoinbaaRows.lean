/-
  No cell of these rows narrows 'for every input' (looked for: loops, veiled, ifaces, maps, wideKeys, modest, calm, conditions, laid).
  DERIVED. THE GIVEN ROWS OF THIS SEAT. 7 by the template 'for every input the law returns true; each argument reads behind the call as it read before'; 0 by the template 'total and deterministic' (their statements: YtooedgaaaoinbaaTotals.lean).
  GIVEN WITH THE SEED: the statements are not yours to turn. If you find one false, say at which input.
  Laid BY PROGRAM, IN A SANDBOX (cutbox-rows.mjs): the forced cells as the released guide's own fill.sh prints them over the translation 60ccc6a21ab7bb4e… (all of the seat's roots in one cut). By AI agents, Wed Nov 11 2026. No macro, syntax, notation, axiom, sorry.
-/
import Derived.Test.YtooedgaaaoinbaaChecked
import GoSem.Claim
import GoSem.ClaimJoined
import GoSem.ClaimMapViews
import Derived.JoinedTies
import Derived.KernelRfl
namespace Go.Proofs.Ytooedgaaaoinbaa
/- THE CELL 'sum', in the pinned program and in every row, IS THE sha256 OF THE DUMP (.gsa) THAT YtooedgaaaoinbaaProg.lean LOADS. Nothing in Lean hashes anything: it is a label: what it is worth is what the hold of that sum in a sandbox is worth. -/
noncomputable def Try.pinned : Pinned := { name := "ytooedgaaaoinbaa", sum := "60ccc6a21ab7bb4e781d922a87a41ca50ddc559a484b173945c09194e3ff81ce", checked := Try.checked }
namespace Rows
def none {H : Type} : Left H := { results := [], args := [] }

/-- 'laws.FnExactLeaveLock': WHATEVER THE INPUT: true; the input reads as it did. -/
def fnExactLeaveLockSpec : ChangeSpec := { name := "fnExactLeaveLock", fn := fun _ => fun
  | [d1, d2] => { results := [.lit (.bool true)], args := [d1, d2] }
  | _ => none }
def fnExactLeaveLockRow : OpenClaim := { program := "ytooedgaaaoinbaa", sum := "60ccc6a21ab7bb4e781d922a87a41ca50ddc559a484b173945c09194e3ff81ce", func := "loop.example/g03317/laws.FnExactLeaveLock", spec := "fnExactLeaveLock", apart := false }
def FnExactLeaveLockSaid : Prop := fnExactLeaveLockRow.holds Try.pinned (OpenSpec.ofChange fnExactLeaveLockSpec)

/-- ITS FALSE NEIGHBOUR: 'it returns false'. Refute it at one input. -/
def fnExactLeaveLockWrong : ChangeSpec := { name := "fnExactLeaveLock", fn := fun _ => fun
  | [d1, d2] => { results := [.lit (.bool false)], args := [d1, d2] }
  | _ => none }
def FnExactLeaveLockWrongFalsely : Prop := fnExactLeaveLockRow.holds Try.pinned (OpenSpec.ofChange fnExactLeaveLockWrong)

/-- 'laws.FnExactFillLock': WHATEVER THE INPUT: true; the input reads as it did. -/
def fnExactFillLockSpec : ChangeSpec := { name := "fnExactFillLock", fn := fun _ => fun
  | [d1, d2] => { results := [.lit (.bool true)], args := [d1, d2] }
  | _ => none }
def fnExactFillLockRow : OpenClaim := { program := "ytooedgaaaoinbaa", sum := "60ccc6a21ab7bb4e781d922a87a41ca50ddc559a484b173945c09194e3ff81ce", func := "loop.example/g03317/laws.FnExactFillLock", spec := "fnExactFillLock", apart := false }
def FnExactFillLockSaid : Prop := fnExactFillLockRow.holds Try.pinned (OpenSpec.ofChange fnExactFillLockSpec)

/-- ITS FALSE NEIGHBOUR: 'it returns false'. Refute it at one input. -/
def fnExactFillLockWrong : ChangeSpec := { name := "fnExactFillLock", fn := fun _ => fun
  | [d1, d2] => { results := [.lit (.bool false)], args := [d1, d2] }
  | _ => none }
def FnExactFillLockWrongFalsely : Prop := fnExactFillLockRow.holds Try.pinned (OpenSpec.ofChange fnExactFillLockWrong)

/-- 'laws.FnExactDrainLock': WHATEVER THE INPUT: true; the input reads as it did. -/
def fnExactDrainLockSpec : ChangeSpec := { name := "fnExactDrainLock", fn := fun _ => fun
  | [d1, d2] => { results := [.lit (.bool true)], args := [d1, d2] }
  | _ => none }
def fnExactDrainLockRow : OpenClaim := { program := "ytooedgaaaoinbaa", sum := "60ccc6a21ab7bb4e781d922a87a41ca50ddc559a484b173945c09194e3ff81ce", func := "loop.example/g03317/laws.FnExactDrainLock", spec := "fnExactDrainLock", apart := false }
def FnExactDrainLockSaid : Prop := fnExactDrainLockRow.holds Try.pinned (OpenSpec.ofChange fnExactDrainLockSpec)

/-- ITS FALSE NEIGHBOUR: 'it returns false'. Refute it at one input. -/
def fnExactDrainLockWrong : ChangeSpec := { name := "fnExactDrainLock", fn := fun _ => fun
  | [d1, d2] => { results := [.lit (.bool false)], args := [d1, d2] }
  | _ => none }
def FnExactDrainLockWrongFalsely : Prop := fnExactDrainLockRow.holds Try.pinned (OpenSpec.ofChange fnExactDrainLockWrong)

/-- 'laws.FnExactBestEntry': WHATEVER THE INPUT: true; the input reads as it did. -/
def fnExactBestEntrySpec : ChangeSpec := { name := "fnExactBestEntry", fn := fun _ => fun
  | [d1, d2] => { results := [.lit (.bool true)], args := [d1, d2] }
  | _ => none }
def fnExactBestEntryRow : OpenClaim := { program := "ytooedgaaaoinbaa", sum := "60ccc6a21ab7bb4e781d922a87a41ca50ddc559a484b173945c09194e3ff81ce", func := "loop.example/g03317/laws.FnExactBestEntry", spec := "fnExactBestEntry", apart := false }
def FnExactBestEntrySaid : Prop := fnExactBestEntryRow.holds Try.pinned (OpenSpec.ofChange fnExactBestEntrySpec)

/-- ITS FALSE NEIGHBOUR: 'it returns false'. Refute it at one input. -/
def fnExactBestEntryWrong : ChangeSpec := { name := "fnExactBestEntry", fn := fun _ => fun
  | [d1, d2] => { results := [.lit (.bool false)], args := [d1, d2] }
  | _ => none }
def FnExactBestEntryWrongFalsely : Prop := fnExactBestEntryRow.holds Try.pinned (OpenSpec.ofChange fnExactBestEntryWrong)

/-- 'laws.FnDepthOverSills': WHATEVER THE INPUT: true; the input reads as it did. -/
def fnDepthOverSillsSpec : ChangeSpec := { name := "fnDepthOverSills", fn := fun _ => fun
  | [d] => { results := [.lit (.bool true)], args := [d] }
  | _ => none }
def fnDepthOverSillsRow : OpenClaim := { program := "ytooedgaaaoinbaa", sum := "60ccc6a21ab7bb4e781d922a87a41ca50ddc559a484b173945c09194e3ff81ce", func := "loop.example/g03317/laws.FnDepthOverSills", spec := "fnDepthOverSills", apart := false }
def FnDepthOverSillsSaid : Prop := fnDepthOverSillsRow.holds Try.pinned (OpenSpec.ofChange fnDepthOverSillsSpec)

/-- ITS FALSE NEIGHBOUR: 'it returns false'. Refute it at one input. -/
def fnDepthOverSillsWrong : ChangeSpec := { name := "fnDepthOverSills", fn := fun _ => fun
  | [d] => { results := [.lit (.bool false)], args := [d] }
  | _ => none }
def FnDepthOverSillsWrongFalsely : Prop := fnDepthOverSillsRow.holds Try.pinned (OpenSpec.ofChange fnDepthOverSillsWrong)

/-- 'laws.FnLockage': WHATEVER THE INPUT: true; the input reads as it did. -/
def fnLockageSpec : ChangeSpec := { name := "fnLockage", fn := fun _ => fun
  | [d] => { results := [.lit (.bool true)], args := [d] }
  | _ => none }
def fnLockageRow : OpenClaim := { program := "ytooedgaaaoinbaa", sum := "60ccc6a21ab7bb4e781d922a87a41ca50ddc559a484b173945c09194e3ff81ce", func := "loop.example/g03317/laws.FnLockage", spec := "fnLockage", apart := false }
def FnLockageSaid : Prop := fnLockageRow.holds Try.pinned (OpenSpec.ofChange fnLockageSpec)

/-- ITS FALSE NEIGHBOUR: 'it returns false'. Refute it at one input. -/
def fnLockageWrong : ChangeSpec := { name := "fnLockage", fn := fun _ => fun
  | [d] => { results := [.lit (.bool false)], args := [d] }
  | _ => none }
def FnLockageWrongFalsely : Prop := fnLockageRow.holds Try.pinned (OpenSpec.ofChange fnLockageWrong)

/-- 'laws.FnBestEntry': WHATEVER THE INPUT: true; the input reads as it did. -/
def fnBestEntrySpec : ChangeSpec := { name := "fnBestEntry", fn := fun _ => fun
  | [d] => { results := [.lit (.bool true)], args := [d] }
  | _ => none }
def fnBestEntryRow : OpenClaim := { program := "ytooedgaaaoinbaa", sum := "60ccc6a21ab7bb4e781d922a87a41ca50ddc559a484b173945c09194e3ff81ce", func := "loop.example/g03317/laws.FnBestEntry", spec := "fnBestEntry", apart := false }
def FnBestEntrySaid : Prop := fnBestEntryRow.holds Try.pinned (OpenSpec.ofChange fnBestEntrySpec)

/-- ITS FALSE NEIGHBOUR: 'it returns false'. Refute it at one input. -/
def fnBestEntryWrong : ChangeSpec := { name := "fnBestEntry", fn := fun _ => fun
  | [d] => { results := [.lit (.bool false)], args := [d] }
  | _ => none }
def FnBestEntryWrongFalsely : Prop := fnBestEntryRow.holds Try.pinned (OpenSpec.ofChange fnBestEntryWrong)

/- THE SECOND FORM. 'bulk': how many values and letters a reading holds, each counted each time it is reached (what is shared counts as often as it is met; a slice's spare places count too). A statement '..UptoSaid' is the law's where the arguments, and the package variables that the reading takes, are together of bulk at most 1048576: NARROWER than '..Said'. Prove '..Said' where nothing that the law and all that it calls make is longer than what came in: it says more and counts as full. Else prove '..UptoSaid'. A law counts once. -/
mutual
def uptoBulk {H : Type} : DataW H → Nat
  | .lit (.string bytes) => bytes.length + 1
  | .lit _ => 1
  | .nil => 1
  | .ptr d => uptoBulk d + 1
  | .slice elems spare => uptoBulkAll elems + uptoBulkAll spare + 1
  | .agg parts => uptoBulkAll parts + 1
  | .iface _ d => uptoBulk d + 1
  | .map entries => uptoBulkEntries entries + 1
  | .held _ => 1
def uptoBulkAll {H : Type} : List (DataW H) → Nat
  | [] => 0
  | d :: r => uptoBulk d + uptoBulkAll r
def uptoBulkEntries {H : Type} : List (Lit × DataW H) → Nat
  | [] => 0
  | x :: r => uptoBulkEntry x + uptoBulkEntries r
def uptoBulkEntry {H : Type} : Lit × DataW H → Nat
  | (.string bytes, d) => bytes.length + uptoBulk d + 1
  | (_, d) => uptoBulk d + 1
 end
def uptoSmall : (H : Type) → List (DataW H) → Bool := fun _ ds => decide (uptoBulkAll ds ≤ 1048576)
def OpenSpec.upto (s : _root_.Go.ChangeSpec) : _root_.Go.OpenSpec := { _root_.Go.OpenSpec.ofChange s with cond := some uptoSmall }

/-- 'laws.FnExactLeaveLock', WHERE WHAT IT READS IS OF BULK AT MOST 1048576: true; the input reads as it did. -/
def fnExactLeaveLockUptoRow : OpenClaim := { program := "ytooedgaaaoinbaa", sum := "60ccc6a21ab7bb4e781d922a87a41ca50ddc559a484b173945c09194e3ff81ce", func := "loop.example/g03317/laws.FnExactLeaveLock", spec := "fnExactLeaveLock", apart := false, narrowed := true }
def FnExactLeaveLockUptoSaid : Prop := fnExactLeaveLockUptoRow.holds Try.pinned (OpenSpec.upto fnExactLeaveLockSpec)

/-- 'laws.FnExactFillLock', WHERE WHAT IT READS IS OF BULK AT MOST 1048576: true; the input reads as it did. -/
def fnExactFillLockUptoRow : OpenClaim := { program := "ytooedgaaaoinbaa", sum := "60ccc6a21ab7bb4e781d922a87a41ca50ddc559a484b173945c09194e3ff81ce", func := "loop.example/g03317/laws.FnExactFillLock", spec := "fnExactFillLock", apart := false, narrowed := true }
def FnExactFillLockUptoSaid : Prop := fnExactFillLockUptoRow.holds Try.pinned (OpenSpec.upto fnExactFillLockSpec)

/-- 'laws.FnExactDrainLock', WHERE WHAT IT READS IS OF BULK AT MOST 1048576: true; the input reads as it did. -/
def fnExactDrainLockUptoRow : OpenClaim := { program := "ytooedgaaaoinbaa", sum := "60ccc6a21ab7bb4e781d922a87a41ca50ddc559a484b173945c09194e3ff81ce", func := "loop.example/g03317/laws.FnExactDrainLock", spec := "fnExactDrainLock", apart := false, narrowed := true }
def FnExactDrainLockUptoSaid : Prop := fnExactDrainLockUptoRow.holds Try.pinned (OpenSpec.upto fnExactDrainLockSpec)

/-- 'laws.FnExactBestEntry', WHERE WHAT IT READS IS OF BULK AT MOST 1048576: true; the input reads as it did. -/
def fnExactBestEntryUptoRow : OpenClaim := { program := "ytooedgaaaoinbaa", sum := "60ccc6a21ab7bb4e781d922a87a41ca50ddc559a484b173945c09194e3ff81ce", func := "loop.example/g03317/laws.FnExactBestEntry", spec := "fnExactBestEntry", apart := false, narrowed := true }
def FnExactBestEntryUptoSaid : Prop := fnExactBestEntryUptoRow.holds Try.pinned (OpenSpec.upto fnExactBestEntrySpec)

/-- 'laws.FnDepthOverSills', WHERE WHAT IT READS IS OF BULK AT MOST 1048576: true; the input reads as it did. -/
def fnDepthOverSillsUptoRow : OpenClaim := { program := "ytooedgaaaoinbaa", sum := "60ccc6a21ab7bb4e781d922a87a41ca50ddc559a484b173945c09194e3ff81ce", func := "loop.example/g03317/laws.FnDepthOverSills", spec := "fnDepthOverSills", apart := false, narrowed := true }
def FnDepthOverSillsUptoSaid : Prop := fnDepthOverSillsUptoRow.holds Try.pinned (OpenSpec.upto fnDepthOverSillsSpec)

/-- 'laws.FnLockage', WHERE WHAT IT READS IS OF BULK AT MOST 1048576: true; the input reads as it did. -/
def fnLockageUptoRow : OpenClaim := { program := "ytooedgaaaoinbaa", sum := "60ccc6a21ab7bb4e781d922a87a41ca50ddc559a484b173945c09194e3ff81ce", func := "loop.example/g03317/laws.FnLockage", spec := "fnLockage", apart := false, narrowed := true }
def FnLockageUptoSaid : Prop := fnLockageUptoRow.holds Try.pinned (OpenSpec.upto fnLockageSpec)

/-- 'laws.FnBestEntry', WHERE WHAT IT READS IS OF BULK AT MOST 1048576: true; the input reads as it did. -/
def fnBestEntryUptoRow : OpenClaim := { program := "ytooedgaaaoinbaa", sum := "60ccc6a21ab7bb4e781d922a87a41ca50ddc559a484b173945c09194e3ff81ce", func := "loop.example/g03317/laws.FnBestEntry", spec := "fnBestEntry", apart := false, narrowed := true }
def FnBestEntryUptoSaid : Prop := fnBestEntryUptoRow.holds Try.pinned (OpenSpec.upto fnBestEntrySpec)

end Rows
end Go.Proofs.Ytooedgaaaoinbaa
