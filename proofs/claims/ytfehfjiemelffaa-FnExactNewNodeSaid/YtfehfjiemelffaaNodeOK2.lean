/- impl.isNode: the two loops. -/
import Derived.Test.YtfehfjiemelffaaNodeOK
namespace Go.Proofs.Ytfehfjiemelffaa
set_option linter.unusedVariables false
set_option linter.unusedSimpArgs false
open Go.RowKit
end Go.Proofs.Ytfehfjiemelffaa
