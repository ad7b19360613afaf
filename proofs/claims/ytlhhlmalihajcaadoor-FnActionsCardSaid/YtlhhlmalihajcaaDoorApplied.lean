/- The functions of FnExactAppliedCount. -/
import Derived.Test.YtlhhlmalihajcaaDoorTo
import Derived.OwnWalk
namespace Go.Proofs.YtlhhlmalihajcaaDoor
set_option linter.unusedVariables false
set_option linter.unusedSimpArgs false
open Go.RowKit
def nonE (xs : List ByteArray) : List ByteArray := xs.filter fun s => !s.toList.isEmpty
theorem nonE_le (xs : List ByteArray) : (nonE xs).length ≤ xs.length := List.length_filter_le _ _
theorem nonE_snoc (xs : List ByteArray) (k : Nat) (hk : k < xs.length) : nonE (xs.take (k + 1)) = if xs[k].toList.isEmpty then nonE (xs.take k) else nonE (xs.take k) ++ [xs[k]] := by
  rw [List.take_succ_eq_append_getElem hk]
  unfold nonE
  rw [List.filter_append]
  cases h : xs[k].toList.isEmpty <;> simp [List.filter_cons, h]
def countV (xs : List ByteArray) : Value := .tuple (if xs.length ≤ 60 then #[.int .i64 (nonE xs).length, .int .i64 0] else if xs.length ≤ 4096 then #[.int .i64 0, .int .i64 6] else #[.int .i64 0, .int .i64 2])
def SzRes (small : Prop) (w : World) (e : Ending) (w' : World) : Prop := (∃ n : Int, e = .returned (.int .i64 n) ∧ n ≤ 1048576 ∧ (0 ≤ n → small)) ∧ Below w.heap.size w w'
theorem countV_form (xs : List ByteArray) : ∃ p q, countV xs = .tuple #[.int .i64 p, .int .i64 q] := by
  unfold countV
  split
  · exact ⟨_, _, rfl⟩
  · split <;> exact ⟨_, _, rfl⟩
end Go.Proofs.YtlhhlmalihajcaaDoor
