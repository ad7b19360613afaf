/- Rows of clusters: sizes, copies, comparisons. -/
import Derived.Test.YtcakldgbhjkkfaaClu
import Derived.Test.YtcakldgbhjkkfaaNodeOK5
import Derived.Test.YtcakldgbhjkkfaaStore2
import Derived.BigQuiet
import Derived.StillTailTactics
namespace Go.Proofs.Ytcakldgbhjkkfaa
set_option linter.unusedVariables false
set_option linter.unusedSimpArgs false
open Go.RowKit
abbrev StoS (w : World) (a : Option Addr) (rs : List Sto) : Prop := Sl stoE 2 w a rs
end Go.Proofs.Ytcakldgbhjkkfaa
