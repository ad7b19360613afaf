/- CutChunks: both cut bytes into frames alike. No conditions but sizes. -/
import Derived.Test.YtckaccadgbcohaaFrm
import Derived.Test.YtckaccadgbcohaaLong
import Derived.WalkLawsBesides
import Derived.WalkSpells
import Derived.Lib.Strings
namespace Go.Proofs.Ytckaccadgbcohaa
set_option linter.unusedVariables false
set_option linter.unusedSimpArgs false
open Go.RowKit
theorem conv_sl {a : Option Addr} {ca : Nat} {xs : List UInt8} {w : World} (ha : Sl byteE 1 w a xs) : (convert 112 9 (.slice a xs.length ca)).run Try.prog w = .ok (.string (strOf xs)) w := by
  rcases ha with rfl | ⟨b, off, rfl, hlt, hc⟩
  · cases a with
    | none =>
      show (convert 112 9 (.slice none 0 ca)).run Try.prog w = _
      rw [run_convert_bytes_string w 112 9 5 none 0 ca Try.underlying112 Try.underlying5 Try.underlying9]
      rfl
    | some a => exact run_convert_bytes_back w _ _ 5 a ca [] Try.underlying112 Try.underlying5 Try.underlying9 (fun j hj => by simp at hj)
  · refine run_convert_bytes_back w _ _ 5 ⟨b, off, none⟩ ca xs Try.underlying112 Try.underlying5 Try.underlying9 (fun j hj => ?_)
    have := hc j hj 0 (by omega)
    simpa [byteE, Addr.add_lit] using this
def chF : Nat → List UInt8 → Nat → List ByteArray
  | 0, _, _ => []
  | f + 1, l, z => if l = [] then [] else frmB (strOf (l.take z)) :: chF f (l.drop z) z
theorem chF_nil (f z : Nat) : chF f [] z = [] := by cases f <;> simp [chF]
theorem chF_cons {f z : Nat} {l : List UInt8} (h : l ≠ []) (hf : l.length ≤ f) : ∃ g, chF f l z = frmB (strOf (l.take z)) :: chF g (l.drop z) z ∧ f ≤ g + 1 := by
  cases f with
  | zero => exact absurd (List.eq_nil_of_length_eq_zero (by omega)) h
  | succ f => exact ⟨f, by simp [chF, h], by omega⟩
theorem extract_take (l : List UInt8) (n : Nat) : (strOf l).extract 0 n = strOf (l.take n) := by
  apply ByteArray.ext
  apply Array.toList_inj.1
  rw [Lib.extract_data]
  rfl
theorem extract_drop (l : List UInt8) (n : Nat) : (strOf l).extract n (strOf l).size = strOf (l.drop n) := by
  apply ByteArray.ext
  apply Array.toList_inj.1
  rw [Lib.extract_data, List.take_of_length_le (by rw [List.length_drop]; exact Nat.le_refl _)]
  rfl
theorem strOf_toL (l : List UInt8) : (strOf l).toList = l := Lib.toList_data _
def lenOf : Value → Nat
  | .string s => s.size
  | _ => 0
def TupR (L : List ByteArray) (code : Int) (w : World) (e : Ending) (w' : World) : Prop :=
  ∃ a c, e = .returned (.tuple #[.slice a L.length c, .int .i64 code]) ∧ Fresh strE 9 1 w.heap.size (.slice a L.length c) L w' ∧ Below w.heap.size w w'
theorem strOne : ∀ (x : ByteArray), ∀ u ∈ strE x, u.oneCell' = true := fun x u hu => by simp [strE] at hu; subst hu; rfl
end Go.Proofs.Ytckaccadgbcohaa
