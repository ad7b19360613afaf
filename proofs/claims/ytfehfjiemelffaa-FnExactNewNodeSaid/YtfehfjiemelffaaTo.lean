/- The laws' functions toIntS, toStringS, toByteS: copies in new memory. -/
import Derived.Test.YtfehfjiemelffaaSlInt
import Derived.RegionTactic
import Derived.BigRegion
namespace Go.Proofs.Ytfehfjiemelffaa
set_option linter.unusedVariables false
set_option linter.unusedSimpArgs false
open Go.RowKit
theorem Try.infoString : (Try.prog.info? 9).map (fun i => (i.zero, i.size, i.bytes)) = some (some (.string ⟨#[]⟩), 1, 16) := by kernel_rfl
def FreshR {α : Type} (enc : α → List Value) (e : TypeId) (sz : Nat) (w : World) (xs : List α) (en : Ending) (w' : World) : Prop :=
  ∃ v, en = .returned v ∧ Fresh enc e sz w.heap.size v xs w' ∧ Below w.heap.size w w'
theorem Try.infoInt : (Try.prog.info? 3).map (fun i => (i.zero, i.size, i.bytes)) = some (some (.int .i64 0), 1, 8) := by kernel_rfl
theorem Try.infoByte : (Try.prog.info? 5).map (fun i => (i.zero, i.size, i.bytes)) = some (some (.int .u8 0), 1, 1) := by kernel_rfl
end Go.Proofs.Ytfehfjiemelffaa
