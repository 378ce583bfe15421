/- Copies of rows and of trains, on both sides. -/
import Derived.Test.YtjjikcjhnglkaaaDoorProg
import Derived.Test.YtjjikcjhnglkaaaDoorGrow
import Derived.Test.YtjjikcjhnglkaaaDoorReg
import Derived.Lib.SliceRun
namespace Go.Proofs.YtjjikcjhnglkaaaDoor
open Go.RowKit
set_option linter.unusedSimpArgs false
set_option linter.unusedVariables false

end Go.Proofs.YtjjikcjhnglkaaaDoor
