/- The functions on stores, second part. -/
import Derived.Test.YtckaccadgbcohaaStore
namespace Go.Proofs.Ytckaccadgbcohaa
set_option linter.unusedVariables false
set_option linter.unusedSimpArgs false
open Go.RowKit
theorem toList_eq (a b : ByteArray) : a.toList = b.toList ↔ a = b := by
  rw [ByteArray.toList_eq, ByteArray.toList_eq]
  constructor
  · intro h
    exact ByteArray.ext (Array.toList_inj.1 h)
  · rintro rfl; rfl
set_option maxHeartbeats 400000 in
theorem eqStore_c (d d' : ByteArray) (s s' : Int) (w : World) :
    Calls Try.prog 81 #[.agg #[.string d, .int .i64 s], .agg #[.string d', .int .i64 s']] w fun e w' => e = .returned (.bool (decide (d = d') && decide (s = s'))) ∧ Below w.heap.size w w' := by
  by_cases h1 : d = d'
  · subst h1
    by_cases h2 : s = s'
    · subst h2
      go_enter Try.func81, Try.ntmps81
      go_wp2_with fail
      go_ret
      exact ⟨by simp, (by repeat (first | exact Below.refl _ _ | (refine Below.alloc ?_ (by (try simp) <;> (try omega)) _) | (refine Below.setCell ?_ (by (try simp) <;> (try omega)) _) | (refine Below.drew ?_) | (refine Below.trans ?_ (Below.mono (by assumption) (by (try simp) <;> (try omega))))))⟩
    · have h2' : (s == s') = false := by simpa using h2
      go_enter Try.func81, Try.ntmps81
      go_wp2_with fail
      go_ret
      exact ⟨by simp [h2], (by repeat (first | exact Below.refl _ _ | (refine Below.alloc ?_ (by (try simp) <;> (try omega)) _) | (refine Below.setCell ?_ (by (try simp) <;> (try omega)) _) | (refine Below.drew ?_) | (refine Below.trans ?_ (Below.mono (by assumption) (by (try simp) <;> (try omega))))))⟩
  · have h1' : (d.toList == d'.toList) = false := by simpa [toList_eq] using h1
    go_enter Try.func81, Try.ntmps81
    go_wp2_with fail
    go_ret
    exact ⟨by simp [h1], (by repeat (first | exact Below.refl _ _ | (refine Below.alloc ?_ (by (try simp) <;> (try omega)) _) | (refine Below.setCell ?_ (by (try simp) <;> (try omega)) _) | (refine Below.drew ?_) | (refine Below.trans ?_ (Below.mono (by assumption) (by (try simp) <;> (try omega))))))⟩
def cutEnd (d : ByteArray) (s keep : Int) : Int := s + max 0 (min keep (d.size - s))
theorem ret_store {d d' : ByteArray} {s s' : Int} (h1 : d = d') (h2 : s = s') : Ending.returned (.agg #[.string d, .int .i64 s]) = .returned (.agg #[.string d', .int .i64 s']) := by rw [h1, h2]
def emptyB : ByteArray := ⟨#[]⟩
def syncV (d : ByteArray) (s : Int) : Value := if storeOK d s then .tuple #[.agg #[.string d, .int .i64 d.size], .int .i64 0] else .tuple #[.agg #[.string ⟨#[]⟩, .int .i64 0], .int .i64 1]
def crashV (d : ByteArray) (s keep : Int) : Value := if storeOK d s then .tuple #[.agg #[.string (d.extract 0 (cutEnd d s keep).toNat), .int .i64 (cutEnd d s keep)], .int .i64 0] else .tuple #[.agg #[.string ⟨#[]⟩, .int .i64 0], .int .i64 1]
theorem storeOK_range {d : ByteArray} {s : Int} (h : storeOK d s = true) : d.size ≤ 60000 ∧ 0 ≤ s ∧ s ≤ d.size := by
  simp [storeOK, inB] at h; exact ⟨h.1, h.2.1, h.2.2⟩
end Go.Proofs.Ytckaccadgbcohaa
