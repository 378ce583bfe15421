/- What is handed back by functions that make a lock and a reach anew. -/
import Derived.Test.YtknpdhafafomaaaProg
import Derived.Test.YtknpdhafafomaaaPut
import Derived.Test.YtknpdhafafomaaaShut
import Derived.Test.YtknpdhafafomaaaEnter
import Derived.Test.YtknpdhafafomaaaChamber
import Derived.Test.YtknpdhafafomaaaTake
namespace Go.Proofs.Ytknpdhafafomaaa
open Go.RowKit
set_option linter.unusedSimpArgs false
set_option linter.unusedVariables false

theorem lockOk_rate {x0 x1 x2 x3 x4 x5 x6 x7 x8 : Int} {ts : List Tn} (h : lockOk x0 x1 x2 x3 x4 x5 x6 x7 x8 ts = true) : 1 ≤ x6 ∧ x6 ≤ 100000 := by
  unfold lockOk at h
  simp only [Bool.and_eq_true] at h
  have := inR_true h.1.1.1.2
  omega
/-- What a function hands back that makes a lock and a reach anew. -/
def LockReach (w w' : World) (ts : List Tn) (ps : List Pt) (xs : List Int) (a' : Option Addr) (a1 : Option Addr) (tn c1 : Nat) (a2 : Option Addr) (pn c2 : Nat) : Prop :=
  ∃ mid, (w.heap.size ≤ mid ∧ mid ≤ w'.heap.size) ∧ OwnTrains w' w.heap.size mid a' ts ∧ OwnReach w' mid w'.heap.size a1 tn c1 a2 pn c2 ps xs
theorem LockReach.mk {w w' : World} {lo1 hi1 lo2 hi2 : Nat} {ts : List Tn} {ps : List Pt} {xs : List Int} {a' : Option Addr} {a1 : Option Addr} {tn c1 : Nat} {a2 : Option Addr} {pn c2 : Nat} (h0 : w.heap.size ≤ lo1) (h1 : lo1 ≤ hi1) (h2 : hi1 ≤ lo2) (h3 : lo2 ≤ hi2) (h4 : hi2 ≤ w'.heap.size) (ho : OwnTrains w' lo1 hi1 a' ts) (hr : OwnReach w' lo2 hi2 a1 tn c1 a2 pn c2 ps xs) : LockReach w w' ts ps xs a' a1 tn c1 a2 pn c2 :=
  ⟨hi1, ⟨by omega, by omega⟩, ho.wide h0 (Nat.le_refl _), hr.keep h2 h4 (fun _ _ _ _ _ h => h)⟩
end Go.Proofs.Ytknpdhafafomaaa
