/- The functions on stores, second part. -/
import Derived.Test.YtcakldgbhjkkfaaStore
namespace Go.Proofs.Ytcakldgbhjkkfaa
set_option linter.unusedVariables false
set_option linter.unusedSimpArgs false
open Go.RowKit
theorem toList_eq (a b : ByteArray) : a.toList = b.toList ↔ a = b := by
  rw [ByteArray.toList_eq, ByteArray.toList_eq]
  constructor
  · intro h
    exact ByteArray.ext (Array.toList_inj.1 h)
  · rintro rfl; rfl
def cutEnd (d : ByteArray) (s keep : Int) : Int := s + max 0 (min keep (d.size - s))
theorem ret_store {d d' : ByteArray} {s s' : Int} (h1 : d = d') (h2 : s = s') : Ending.returned (.agg #[.string d, .int .i64 s]) = .returned (.agg #[.string d', .int .i64 s']) := by rw [h1, h2]
def emptyB : ByteArray := ⟨#[]⟩
def syncV (d : ByteArray) (s : Int) : Value := if storeOK d s then .tuple #[.agg #[.string d, .int .i64 d.size], .int .i64 0] else .tuple #[.agg #[.string ⟨#[]⟩, .int .i64 0], .int .i64 1]
def crashV (d : ByteArray) (s keep : Int) : Value := if storeOK d s then .tuple #[.agg #[.string (d.extract 0 (cutEnd d s keep).toNat), .int .i64 (cutEnd d s keep)], .int .i64 0] else .tuple #[.agg #[.string ⟨#[]⟩, .int .i64 0], .int .i64 1]
theorem storeOK_range {d : ByteArray} {s : Int} (h : storeOK d s = true) : d.size ≤ 60000 ∧ 0 ≤ s ∧ s ≤ d.size := by
  simp [storeOK, inB] at h; exact ⟨h.1, h.2.1, h.2.2⟩
end Go.Proofs.Ytcakldgbhjkkfaa
