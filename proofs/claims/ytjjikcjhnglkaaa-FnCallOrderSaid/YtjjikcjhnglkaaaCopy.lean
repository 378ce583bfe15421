/- Copies of rows and of trains, on both sides. -/
import Derived.Test.YtjjikcjhnglkaaaProg
import Derived.Test.YtjjikcjhnglkaaaGrow
import Derived.Test.YtjjikcjhnglkaaaReg
import Derived.Lib.SliceRun
namespace Go.Proofs.Ytjjikcjhnglkaaa
open Go.RowKit
set_option linter.unusedSimpArgs false
set_option linter.unusedVariables false

end Go.Proofs.Ytjjikcjhnglkaaa
