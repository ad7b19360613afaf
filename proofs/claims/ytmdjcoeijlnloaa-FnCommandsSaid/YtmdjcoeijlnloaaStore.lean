/- The functions on stores. -/
import Derived.Test.YtmdjcoeijlnloaaScalar
namespace Go.Proofs.Ytmdjcoeijlnloaa
set_option linter.unusedVariables false
set_option linter.unusedSimpArgs false
open Go.RowKit
def storeOK (d : ByteArray) (s : Int) : Bool := decide (d.size ≤ 60000) && inB s 0 d.size
set_option maxHeartbeats 400000 in
theorem isStore_c (d : ByteArray) (s : Int) (w : World) :
    Calls Try.prog 80 #[.agg #[.string d, .int .i64 s]] w fun e w' => e = .returned (.bool (storeOK d s)) ∧ Below w.heap.size w w' := by
  by_cases h1 : d.size ≤ 60000
  all_goals
    go_enter Try.func80, Try.ntmps80
    go_wp2_with (go_at_call 91; refine (within_c _ _ _ _).mono ?_; rintro e w' ⟨rfl, rfl⟩)
    go_ret
    exact ⟨by simp [storeOK, h1], (Below.refl _ _).alloc (Nat.le_refl _) _⟩
set_option maxHeartbeats 400000 in
theorem specStoreOK_c (d : ByteArray) (s : Int) (w : World) :
    Calls Try.prog 78 #[.agg #[.string d, .int .i64 s]] w fun e w' => e = .returned (.bool (storeOK d s)) ∧ Below w.heap.size w w' := by
  by_cases h1 : d.size ≤ 60000
  all_goals
    go_enter Try.func78, Try.ntmps78
    go_wp2_with (go_at_call 105; refine (l01In_c _ _ _ _).mono ?_; rintro e w' ⟨rfl, rfl⟩)
    go_ret
    exact ⟨by simp [storeOK, h1], (Below.refl _ _).alloc (Nat.le_refl _) _⟩
set_option maxHeartbeats 400000 in
theorem implStoreOK_c (d : ByteArray) (s : Int) (w : World) :
    Calls Try.prog 43 #[.agg #[.string d, .int .i64 s]] w fun e w' => e = .returned (.bool (storeOK d s)) ∧ Below w.heap.size w w' := by
  go_enter Try.func43, Try.ntmps43
  go_wp2_with (go_at_call 80; refine (isStore_c _ _ _).mono ?_; rintro e w' ⟨rfl, hb⟩)
  go_ret
  exact ⟨rfl, ((Below.refl _ _).alloc (Nat.le_refl _) _).trans (hb.mono (by simp))⟩
set_option maxHeartbeats 400000 in
theorem toStore_c (d : ByteArray) (s : Int) (w : World) :
    Calls Try.prog 30 #[.agg #[.string d, .int .i64 s]] w fun e w' => e = .returned (.agg #[.string d, .int .i64 s]) ∧ Below w.heap.size w w' := by
  go_enter Try.func30, Try.ntmps30
  go_wp2_with fail
  refine bodyPost_ret (v := .agg #[.string d, .int .i64 s]) (by simp [results, Try.results30, go_sem]) rfl ?_
  exact ⟨rfl, (by repeat (first | exact Below.refl _ _ | (refine Below.alloc ?_ (by (try simp) <;> (try omega)) _) | (refine Below.setCell ?_ (by (try simp) <;> (try omega)) _) | (refine Below.drew ?_) | (refine Below.trans ?_ (Below.mono (by assumption) (by (try simp) <;> (try omega))))))⟩
def SzR (b : Bool) (left : Int) (B : Nat) (w : World) (e : Ending) (w' : World) : Prop := (∃ n : Int, e = .returned (.int .i64 n) ∧ n ≤ left ∧ (0 ≤ n → b = true)) ∧ Below B w w'
set_option maxHeartbeats 400000 in
theorem szStore_c (d : ByteArray) (s left : Int) (w : World) (h1 : 0 ≤ left) (h2 : left ≤ 1048576) (h3 : d.size ≤ 9223372036854775807) :
    Calls Try.prog 28 #[.agg #[.string d, .int .i64 s], .int .i64 left] w (SzR (decide (d.size ≤ 1048576)) left w.heap.size w) := by
  go_enter Try.func28, Try.ntmps28
  go_wp2_with fail
  all_goals
    go_ret
    refine ⟨⟨_, rfl, by omega, fun h => ?_⟩, (by repeat (first | exact Below.refl _ _ | (refine Below.alloc ?_ (by (try simp) <;> (try omega)) _) | (refine Below.setCell ?_ (by (try simp) <;> (try omega)) _) | (refine Below.drew ?_) | (refine Below.trans ?_ (Below.mono (by assumption) (by (try simp) <;> (try omega))))))⟩
  · omega
  · simp; omega
end Go.Proofs.Ytmdjcoeijlnloaa
