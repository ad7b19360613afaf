/- The functions on stores. -/
import Derived.Test.YtckaccadgbcohaaScalar
namespace Go.Proofs.Ytckaccadgbcohaa
set_option linter.unusedVariables false
set_option linter.unusedSimpArgs false
open Go.RowKit
def storeOK (d : ByteArray) (s : Int) : Bool := decide (d.size ≤ 60000) && inB s 0 d.size
set_option maxHeartbeats 400000 in
theorem isStore_c (d : ByteArray) (s : Int) (w : World) :
    Calls Try.prog 72 #[.agg #[.string d, .int .i64 s]] w fun e w' => e = .returned (.bool (storeOK d s)) ∧ Below w.heap.size w w' := by
  by_cases h1 : d.size ≤ 60000
  all_goals
    go_enter Try.func72, Try.ntmps72
    go_wp2_with (go_at_call 55; refine (within_c _ _ _ _).mono ?_; rintro e w' ⟨rfl, rfl⟩)
    go_ret
    exact ⟨by simp [storeOK, h1], (Below.refl _ _).alloc (Nat.le_refl _) _⟩
set_option maxHeartbeats 400000 in
theorem specStoreOK_c (d : ByteArray) (s : Int) (w : World) :
    Calls Try.prog 32 #[.agg #[.string d, .int .i64 s]] w fun e w' => e = .returned (.bool (storeOK d s)) ∧ Below w.heap.size w w' := by
  by_cases h1 : d.size ≤ 60000
  all_goals
    go_enter Try.func32, Try.ntmps32
    go_wp2_with (go_at_call 63; refine (l01In_c _ _ _ _).mono ?_; rintro e w' ⟨rfl, rfl⟩)
    go_ret
    exact ⟨by simp [storeOK, h1], (Below.refl _ _).alloc (Nat.le_refl _) _⟩
set_option maxHeartbeats 400000 in
theorem toStore_c (d : ByteArray) (s : Int) (w : World) :
    Calls Try.prog 69 #[.agg #[.string d, .int .i64 s]] w fun e w' => e = .returned (.agg #[.string d, .int .i64 s]) ∧ Below w.heap.size w w' := by
  go_enter Try.func69, Try.ntmps69
  go_wp2_with fail
  refine bodyPost_ret (v := .agg #[.string d, .int .i64 s]) (by simp [results, Try.results69, go_sem]) rfl ?_
  exact ⟨rfl, (by repeat (first | exact Below.refl _ _ | (refine Below.alloc ?_ (by (try simp) <;> (try omega)) _) | (refine Below.setCell ?_ (by (try simp) <;> (try omega)) _) | (refine Below.drew ?_) | (refine Below.trans ?_ (Below.mono (by assumption) (by (try simp) <;> (try omega))))))⟩
def SzR (b : Bool) (left : Int) (B : Nat) (w : World) (e : Ending) (w' : World) : Prop := (∃ n : Int, e = .returned (.int .i64 n) ∧ n ≤ left ∧ (0 ≤ n → b = true)) ∧ Below B w w'
set_option maxHeartbeats 400000 in
theorem szStore_c (d : ByteArray) (s left : Int) (w : World) (h1 : 0 ≤ left) (h2 : left ≤ 1048576) (h3 : d.size ≤ 9223372036854775807) :
    Calls Try.prog 61 #[.agg #[.string d, .int .i64 s], .int .i64 left] w (SzR (decide (d.size ≤ 1048576)) left w.heap.size w) := by
  go_enter Try.func61, Try.ntmps61
  go_wp2_with fail
  all_goals
    go_ret
    refine ⟨⟨_, rfl, by omega, fun h => ?_⟩, (by repeat (first | exact Below.refl _ _ | (refine Below.alloc ?_ (by (try simp) <;> (try omega)) _) | (refine Below.setCell ?_ (by (try simp) <;> (try omega)) _) | (refine Below.drew ?_) | (refine Below.trans ?_ (Below.mono (by assumption) (by (try simp) <;> (try omega))))))⟩
  · omega
  · simp; omega
end Go.Proofs.Ytckaccadgbcohaa
