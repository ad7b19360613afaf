/- The functions on stores. -/
import Derived.Test.YtmkgmecpjppgcaaScalar
namespace Go.Proofs.Ytmkgmecpjppgcaa
set_option linter.unusedVariables false
set_option linter.unusedSimpArgs false
open Go.RowKit
def storeOK (d : ByteArray) (s : Int) : Bool := decide (d.size ≤ 60000) && inB s 0 d.size
set_option maxHeartbeats 400000 in
theorem isStore_c (d : ByteArray) (s : Int) (w : World) :
    Calls Try.prog 59 #[.agg #[.string d, .int .i64 s]] w fun e w' => e = .returned (.bool (storeOK d s)) ∧ Below w.heap.size w w' := by
  by_cases h1 : d.size ≤ 60000
  all_goals
    go_enter Try.func59, Try.ntmps59
    go_wp2_with (go_at_call 74; refine (within_c _ _ _ _).mono ?_; rintro e w' ⟨rfl, rfl⟩)
    go_ret
    exact ⟨by simp [storeOK, h1], (Below.refl _ _).alloc (Nat.le_refl _) _⟩
set_option maxHeartbeats 400000 in
theorem specStoreOK_c (d : ByteArray) (s : Int) (w : World) :
    Calls Try.prog 16 #[.agg #[.string d, .int .i64 s]] w fun e w' => e = .returned (.bool (storeOK d s)) ∧ Below w.heap.size w w' := by
  by_cases h1 : d.size ≤ 60000
  all_goals
    go_enter Try.func16, Try.ntmps16
    go_wp2_with (go_at_call 58; refine (l01In_c _ _ _ _).mono ?_; rintro e w' ⟨rfl, rfl⟩)
    go_ret
    exact ⟨by simp [storeOK, h1], (Below.refl _ _).alloc (Nat.le_refl _) _⟩
set_option maxHeartbeats 400000 in
theorem implStoreOK_c (d : ByteArray) (s : Int) (w : World) :
    Calls Try.prog 18 #[.agg #[.string d, .int .i64 s]] w fun e w' => e = .returned (.bool (storeOK d s)) ∧ Below w.heap.size w w' := by
  go_enter Try.func18, Try.ntmps18
  go_wp2_with (go_at_call 59; refine (isStore_c _ _ _).mono ?_; rintro e w' ⟨rfl, hb⟩)
  go_ret
  exact ⟨rfl, ((Below.refl _ _).alloc (Nat.le_refl _) _).trans (hb.mono (by simp))⟩
set_option maxHeartbeats 400000 in
theorem toStore_c (d : ByteArray) (s : Int) (w : World) :
    Calls Try.prog 17 #[.agg #[.string d, .int .i64 s]] w fun e w' => e = .returned (.agg #[.string d, .int .i64 s]) ∧ Below w.heap.size w w' := by
  go_enter Try.func17, Try.ntmps17
  go_wp2_with fail
  refine bodyPost_ret (v := .agg #[.string d, .int .i64 s]) (by simp [results, Try.results17, go_sem]) rfl ?_
  exact ⟨rfl, (by repeat (first | exact Below.refl _ _ | (refine Below.alloc ?_ (by (try simp) <;> (try omega)) _) | (refine Below.setCell ?_ (by (try simp) <;> (try omega)) _) | (refine Below.drew ?_) | (refine Below.trans ?_ (Below.mono (by assumption) (by (try simp) <;> (try omega))))))⟩
def SzR (b : Bool) (left : Int) (B : Nat) (w : World) (e : Ending) (w' : World) : Prop := (∃ n : Int, e = .returned (.int .i64 n) ∧ n ≤ left ∧ (0 ≤ n → b = true)) ∧ Below B w w'
set_option maxHeartbeats 400000 in
theorem szStore_c (d : ByteArray) (s left : Int) (w : World) (h1 : 0 ≤ left) (h2 : left ≤ 1048576) (h3 : d.size ≤ 9223372036854775807) :
    Calls Try.prog 15 #[.agg #[.string d, .int .i64 s], .int .i64 left] w (SzR (decide (d.size ≤ 1048576)) left w.heap.size w) := by
  go_enter Try.func15, Try.ntmps15
  go_wp2_with fail
  all_goals
    go_ret
    refine ⟨⟨_, rfl, by omega, fun h => ?_⟩, (by repeat (first | exact Below.refl _ _ | (refine Below.alloc ?_ (by (try simp) <;> (try omega)) _) | (refine Below.setCell ?_ (by (try simp) <;> (try omega)) _) | (refine Below.drew ?_) | (refine Below.trans ?_ (Below.mono (by assumption) (by (try simp) <;> (try omega))))))⟩
  · omega
  · simp; omega
set_option maxHeartbeats 400000 in
theorem lawStoreOK_c (d : ByteArray) (s : Int) (w : World) (h3 : d.size ≤ 9223372036854775807) :
    Calls Try.prog 3 #[.agg #[.string d, .int .i64 s]] w fun e w' => e = .returned (.bool true) ∧ Below w.heap.size w w' := by
  go_enter Try.func3, Try.ntmps3
  go_wp2_with fail
  refine (szStore_c _ _ _ _ (by omega) (by omega) h3).mono ?_
  rintro e w1 ⟨⟨n, rfl, hn1, hn2⟩, hb1⟩
  have hz1 := hb1.size
  try simp at hz1
  have kc1_0 := fun o => hb1.cell (p := ⟨w.heap.size, o, none⟩) (by (try simp) <;> (try omega))
  have kf1_0 := fun o => hb1.frozen (p := ⟨w.heap.size, o, none⟩) (by (try simp) <;> (try omega))
  have hl1_0 : w.heap.size < w1.heap.size := by omega
  clear hn2
  by_cases hneg : n < 0
  · go_wp2_with fail
    go_ret
    exact ⟨rfl, (by repeat (first | exact Below.refl _ _ | (refine Below.alloc ?_ (by (try simp) <;> (try omega)) _) | (refine Below.setCell ?_ (by (try simp) <;> (try omega)) _) | (refine Below.drew ?_) | (refine Below.trans ?_ (Below.mono (by assumption) (by (try simp) <;> (try omega))))))⟩
  · go_wp2_with fail
    refine (toStore_c _ _ _).mono ?_
    rintro e w2 ⟨rfl, hb2⟩
    have hz2 := hb2.size
    try simp at hz2
    have kc2_0 := fun o => hb2.cell (p := ⟨w.heap.size, o, none⟩) (by (try simp) <;> (try omega))
    have kf2_0 := fun o => hb2.frozen (p := ⟨w.heap.size, o, none⟩) (by (try simp) <;> (try omega))
    have hl2_0 : w.heap.size < w2.heap.size := by omega
    go_wp2_with fail
    refine (specStoreOK_c _ _ _).mono ?_
    rintro e w3 ⟨rfl, hb3⟩
    have hz3 := hb3.size
    try simp at hz3
    have kc3_0 := fun o => hb3.cell (p := ⟨w.heap.size, o, none⟩) (by (try simp) <;> (try omega))
    have kf3_0 := fun o => hb3.frozen (p := ⟨w.heap.size, o, none⟩) (by (try simp) <;> (try omega))
    have hl3_0 : w.heap.size < w3.heap.size := by omega
    go_wp2_with fail
    refine (toStore_c _ _ _).mono ?_
    rintro e w4 ⟨rfl, hb4⟩
    go_wp2_with fail
    refine (implStoreOK_c _ _ _).mono ?_
    rintro e w5 ⟨rfl, hb5⟩
    have hz4 := hb4.size
    go_wp2_with fail
    go_ret
    exact ⟨rfl, (by repeat (first | exact Below.refl _ _ | (refine Below.alloc ?_ (by (try simp) <;> (try omega)) _) | (refine Below.setCell ?_ (by (try simp) <;> (try omega)) _) | (refine Below.drew ?_) | (refine Below.trans ?_ (Below.mono (by assumption) (by (try simp) <;> (try omega))))))⟩
end Go.Proofs.Ytmkgmecpjppgcaa
