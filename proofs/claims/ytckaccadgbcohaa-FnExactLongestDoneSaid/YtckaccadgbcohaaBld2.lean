/- strings.Builder.WriteByte on a builder of the call's own. No conditions but sizes. -/
import Derived.Test.YtckaccadgbcohaaBldS
namespace Go.Proofs.Ytckaccadgbcohaa
set_option linter.unusedVariables false
set_option linter.unusedSimpArgs false
open Go.RowKit
end Go.Proofs.Ytckaccadgbcohaa
