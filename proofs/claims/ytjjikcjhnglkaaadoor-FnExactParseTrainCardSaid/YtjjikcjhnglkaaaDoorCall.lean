/- Calls: sizes, conversion, comparison, CallOk on both sides. -/
import Derived.Test.YtjjikcjhnglkaaaDoorProg
import Derived.Test.YtjjikcjhnglkaaaDoorTrainMin
namespace Go.Proofs.YtjjikcjhnglkaaaDoor
open Go.RowKit
set_option linter.unusedSimpArgs false
set_option linter.unusedVariables false

def callOk (rows : List (List Bt)) (si bo : Int) : Bool := trainOk rows && inR si 0 1000000 && inR bo (-1) 1000000
theorem chain2 (a b : Bool) : a = false ∨ (a = true ∧ b = false) ∨ (a = true ∧ b = true) := by cases a <;> cases b <;> simp
end Go.Proofs.YtjjikcjhnglkaaaDoor
