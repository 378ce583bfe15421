/- DrawTrain: a valid train, in memory of its own. -/
import Derived.Test.YtphhjfcmglhlfaaProg
import Derived.Test.YtphhjfcmglhlfaaDrawTr
namespace Go.Proofs.Ytphhjfcmglhlfaa
open Go.RowKit
set_option linter.unusedSimpArgs false
set_option linter.unusedVariables false

end Go.Proofs.Ytphhjfcmglhlfaa
