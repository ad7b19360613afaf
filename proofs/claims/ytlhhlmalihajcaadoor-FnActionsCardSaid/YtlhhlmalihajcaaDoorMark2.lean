/- laws.markStringS writes its own texts into a slice of the caller's own; laws.heldStringS finds them there. -/
import Derived.Test.YtlhhlmalihajcaaDoorMark
import Derived.Test.YtlhhlmalihajcaaDoorOwn
import Derived.Test.YtlhhlmalihajcaaDoorQuiet
namespace Go.Proofs.YtlhhlmalihajcaaDoor
set_option linter.unusedVariables false
set_option linter.unusedSimpArgs false
open Go.RowKit
def marks (K n : Nat) : List ByteArray := (List.range n).map fun i => mt (K + i)
theorem marks_length (K n : Nat) : (marks K n).length = n := by simp [marks]
theorem marks_get (K n i : Nat) (h : i < (marks K n).length) : (marks K n)[i] = mt (K + i) := by simp [marks]
theorem marks_step (K : Nat) (xs : List ByteArray) (k : Nat) (hk : k < xs.length) : (marks K k ++ xs.drop k).set k (mt (K + k)) = marks K (k + 1) ++ xs.drop (k + 1) := by
  have h1 := marks_length K k
  rw [List.set_append, if_neg (by omega), h1, Nat.sub_self, List.drop_eq_getElem_cons hk, List.set_cons_zero]
  simp [marks, List.range_succ]
theorem marks_mid_length (K : Nat) (xs : List ByteArray) (k : Nat) (hk : k ≤ xs.length) : (marks K k ++ xs.drop k).length = xs.length := by simp [marks]; omega
def MarkR (lo hi n K : Nat) (a : Option Addr) (ca : Nat) (w : World) (en : Ending) (w' : World) : Prop :=
  en = .returned (.int .i64 ((K + n : Nat))) ∧ FreshIn strE 9 1 lo hi (.slice a n ca) (marks K n) w' ∧ Mid lo hi w w'
end Go.Proofs.YtlhhlmalihajcaaDoor
