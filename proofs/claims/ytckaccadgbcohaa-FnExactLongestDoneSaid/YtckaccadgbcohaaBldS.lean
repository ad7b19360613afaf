/- strings.Builder.String, off the shelf; what is between is as the shelf's command prints it. -/
import Derived.Shelf.Strings.Builder1
import Derived.Test.YtckaccadgbcohaaBld
namespace Go.Proofs.Ytckaccadgbcohaa
set_option linter.unusedVariables false
set_option linter.unusedSimpArgs false
open Go.Shelf Go.RowKit
end Go.Proofs.Ytckaccadgbcohaa
