/- spec.l07Records: the records from one state to another. No conditions but sizes. -/
import Derived.Test.YtckaccadgbcohaaRec
import Derived.Test.YtckaccadgbcohaaRd2
import Derived.Deep.RegionHeldLaw
namespace Go.Proofs.Ytckaccadgbcohaa
set_option linter.unusedVariables false
set_option linter.unusedSimpArgs false
open Go.RowKit
end Go.Proofs.Ytckaccadgbcohaa
