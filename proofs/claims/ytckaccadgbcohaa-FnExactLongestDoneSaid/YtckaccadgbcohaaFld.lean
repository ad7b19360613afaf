/- Fields and numbers as bytes: impl.numbersOf, impl.fieldsOf, impl.fields. No conditions but sizes. -/
import Derived.Test.YtckaccadgbcohaaBld2
import Derived.Test.YtckaccadgbcohaaLong
namespace Go.Proofs.Ytckaccadgbcohaa
set_option linter.unusedVariables false
set_option linter.unusedSimpArgs false
open Go.RowKit
def numL (ns : List Int) : List UInt8 := ns.flatMap fun n => be (n + 1).toNat 3
theorem numL_length (ns : List Int) : (numL ns).length = 3 * ns.length := by
  induction ns with
  | nil => rfl
  | cons n ns ih => simp only [numL, List.flatMap_cons, List.length_append, be_length, List.length_cons] at *; omega
theorem numL_snoc (ns : List Int) (k : Nat) (hk : k < ns.length) : numL (ns.take (k + 1)) = numL (ns.take k) ++ be (ns[k] + 1).toNat 3 := by
  unfold numL
  rw [List.take_succ_eq_append_getElem hk, List.flatMap_append]
  simp only [List.flatMap_cons, List.flatMap_nil, List.append_nil]
def fieldL (s : ByteArray) : List UInt8 := be s.size 2 ++ s.data.toList
def fldB (fs : List ByteArray) : List UInt8 := fs.flatMap fieldL
def fldL (fs : List ByteArray) : List UInt8 := UInt8.ofNat fs.length :: fldB fs
theorem fieldL_length (s : ByteArray) : (fieldL s).length = 2 + s.size := by simp [fieldL, be_length]
theorem fldB_snoc (fs : List ByteArray) (k : Nat) (hk : k < fs.length) : fldB (fs.take (k + 1)) = fldB (fs.take k) ++ fieldL fs[k] := by
  unfold fldB
  rw [List.take_succ_eq_append_getElem hk, List.flatMap_append]
  simp only [List.flatMap_cons, List.flatMap_nil, List.append_nil]
theorem fldB_le (fs : List ByteArray) (M : Nat) (h : ∀ s ∈ fs, s.size ≤ M) : (fldB fs).length ≤ fs.length * (2 + M) := by
  induction fs with
  | nil => simp [fldB]
  | cons s fs ih =>
    have h1 := h s (by simp)
    have h2 := ih (fun x hx => h x (by simp [hx]))
    simp only [fldB, List.flatMap_cons, List.length_append, List.length_cons, fieldL_length] at *
    rw [Nat.add_mul]
    omega
def bigP (s : ByteArray) : Bool := decide (20000 < s.size)
end Go.Proofs.Ytckaccadgbcohaa
