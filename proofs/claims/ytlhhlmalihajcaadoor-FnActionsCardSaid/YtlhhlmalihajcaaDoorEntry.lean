/- The laws' helper functions on entries and slices of entries. -/
import Derived.Test.YtlhhlmalihajcaaDoorApplied
import Derived.StillTailTactics
import Derived.Deep.RegionWith
namespace Go.Proofs.YtlhhlmalihajcaaDoor
set_option linter.unusedVariables false
set_option linter.unusedSimpArgs false
open Go.RowKit
abbrev Ent := Int × ByteArray
end Go.Proofs.YtlhhlmalihajcaaDoor
