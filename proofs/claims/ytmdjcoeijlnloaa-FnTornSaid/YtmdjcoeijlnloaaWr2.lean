/- spec.l07Write. No conditions but sizes. -/
import Derived.Test.YtmdjcoeijlnloaaWr
import Derived.Deep.RegionWith
namespace Go.Proofs.Ytmdjcoeijlnloaa
set_option linter.unusedVariables false
set_option linter.unusedSimpArgs false
open Go.RowKit
def wrOut (o : Option (List UInt8)) (D : ByteArray) (n : Int) : Prop := match o with
  | some l => D = strOf l ∧ n = 0
  | none => n = 7
end Go.Proofs.Ytmdjcoeijlnloaa
