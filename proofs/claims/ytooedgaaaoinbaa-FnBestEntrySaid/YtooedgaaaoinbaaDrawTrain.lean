/- DrawTrain: a valid train, in memory of its own. -/
import Derived.Test.YtooedgaaaoinbaaProg
import Derived.Test.YtooedgaaaoinbaaDrawTr
namespace Go.Proofs.Ytooedgaaaoinbaa
open Go.RowKit
set_option linter.unusedSimpArgs false
set_option linter.unusedVariables false

end Go.Proofs.Ytooedgaaaoinbaa
