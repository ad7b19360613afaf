/- The laws' helper functions on states. -/
import Derived.Test.YtcakldgbhjkkfaaState
namespace Go.Proofs.Ytcakldgbhjkkfaa
set_option linter.unusedVariables false
set_option linter.unusedSimpArgs false
open Go.RowKit
def FreshState (t v : Int) (xs : List Ent) (w : World) (e : Ending) (w' : World) : Prop :=
  ∃ a c, e = .returned (.agg #[.int .i64 t, .int .i64 v, .slice a xs.length c]) ∧ Fresh entE 48 2 w.heap.size (.slice a xs.length c) xs w' ∧ Below w.heap.size w w'
end Go.Proofs.Ytcakldgbhjkkfaa
