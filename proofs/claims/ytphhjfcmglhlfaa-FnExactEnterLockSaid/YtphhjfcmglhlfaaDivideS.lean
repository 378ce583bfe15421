/- DivideTrain, the reference. -/
import Derived.Test.YtphhjfcmglhlfaaProg
import Derived.Test.YtphhjfcmglhlfaaDivide
namespace Go.Proofs.Ytphhjfcmglhlfaa
open Go.RowKit
set_option linter.unusedSimpArgs false
set_option linter.unusedVariables false

end Go.Proofs.Ytphhjfcmglhlfaa
