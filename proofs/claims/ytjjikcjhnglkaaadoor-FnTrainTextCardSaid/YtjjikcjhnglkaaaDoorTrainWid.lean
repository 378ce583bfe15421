/- WidthOf: what it computes, on both sides. -/
import Derived.Test.YtjjikcjhnglkaaaDoorProg
import Derived.Test.YtjjikcjhnglkaaaDoorTrainLen
namespace Go.Proofs.YtjjikcjhnglkaaaDoor
open Go.RowKit
set_option linter.unusedSimpArgs false
set_option linter.unusedVariables false

def sumWid (n : Int) (row : List Bt) : Int := row.foldl (fun n b => n + b.wid) n
def widGo (s : Int) (rows : List (List Bt)) : Int := rows.foldl (fun s r => if s < (sumWid 0 r) then (sumWid 0 r) else s) s
def widthOf (rows : List (List Bt)) : Int := if trainOk rows then widGo 0 rows else 0

end Go.Proofs.YtjjikcjhnglkaaaDoor
