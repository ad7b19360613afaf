/- The functions on stores. -/
import Derived.Test.YtcakldgbhjkkfaaScalar
namespace Go.Proofs.Ytcakldgbhjkkfaa
set_option linter.unusedVariables false
set_option linter.unusedSimpArgs false
open Go.RowKit
def storeOK (d : ByteArray) (s : Int) : Bool := decide (d.size ≤ 60000) && inB s 0 d.size
def SzR (b : Bool) (left : Int) (B : Nat) (w : World) (e : Ending) (w' : World) : Prop := (∃ n : Int, e = .returned (.int .i64 n) ∧ n ≤ left ∧ (0 ≤ n → b = true)) ∧ Below B w w'
end Go.Proofs.Ytcakldgbhjkkfaa
