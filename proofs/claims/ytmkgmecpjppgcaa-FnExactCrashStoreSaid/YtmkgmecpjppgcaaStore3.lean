/- The laws FnExactSyncStore and FnExactCrashStore: their walks. No conditions. -/
import Derived.Test.YtmkgmecpjppgcaaStore2
import Derived.Lib.Hide
namespace Go.Proofs.Ytmkgmecpjppgcaa
set_option linter.unusedVariables false
set_option linter.unusedSimpArgs false
open Go.RowKit
set_option maxHeartbeats 1000000 in
theorem lawSyncStore_c (d : ByteArray) (s : Int) (w : World) (h3 : d.size ≤ 9223372036854775807) :
    Calls Try.prog 4 #[.agg #[.string d, .int .i64 s]] w fun e w' => e = .returned (.bool true) ∧ Below w.heap.size w w' := by
  go_enter Try.func4, Try.ntmps4
  go_wp2_with fail
  refine (szStore_c _ _ _ _ (by omega) (by omega) h3).mono ?_
  rintro e w1 ⟨⟨n, rfl, hn1, hn2⟩, hb1⟩
  have hz1 := hb1.size
  try simp at hz1
  have kc1_0 := fun o => hb1.cell (p := ⟨w.heap.size, o, none⟩) (by (try simp) <;> (try omega))
  have kf1_0 := fun o => hb1.frozen (p := ⟨w.heap.size, o, none⟩) (by (try simp) <;> (try omega))
  have hl1_0 : w.heap.size < w1.heap.size := by omega
  clear hn2
  by_cases hneg : n < 0
  · go_wp2_with fail
    go_ret
    exact ⟨rfl, (by repeat (first | exact Below.refl _ _ | (refine Below.alloc ?_ (by (try simp) <;> (try omega)) _) | (refine Below.setCell ?_ (by (try simp) <;> (try omega)) _) | (refine Below.drew ?_) | (refine Below.trans ?_ (Below.mono (by assumption) (by (try simp) <;> (try omega))))))⟩
  · by_cases hs : storeOK d s = true
    all_goals
      first
      | have hE : syncV d s = .tuple #[.agg #[.string d, .int .i64 d.size], .int .i64 0] := by simp [syncV, hs]
      | have hE : syncV d s = .tuple #[.agg #[.string ⟨#[]⟩, .int .i64 0], .int .i64 1] := by simp [syncV, hs]
      have HE := Lib.hid hE
      clear hE
      go_wp2_with fail
      refine (toStore_c _ _ _).mono ?_
      rintro e w2 ⟨rfl, hb2⟩
      have hz2 := hb2.size
      try simp at hz2
      have kc2_0 := fun o => hb2.cell (p := ⟨w.heap.size, o, none⟩) (by (try simp) <;> (try omega))
      have kf2_0 := fun o => hb2.frozen (p := ⟨w.heap.size, o, none⟩) (by (try simp) <;> (try omega))
      have hl2_0 : w.heap.size < w2.heap.size := by omega
      go_wp2_with fail
      refine (specSync_c _ _ _).mono ?_
      rintro e w3 ⟨rfl, hb3⟩
      rw [HE.out]
      have hz3 := hb3.size
      try simp at hz3
      have kc3_0 := fun o => hb3.cell (p := ⟨w.heap.size, o, none⟩) (by (try simp) <;> (try omega))
      have kf3_0 := fun o => hb3.frozen (p := ⟨w.heap.size, o, none⟩) (by (try simp) <;> (try omega))
      have hl3_0 : w.heap.size < w3.heap.size := by omega
      go_wp2_with fail
      refine (toStore_c _ _ _).mono ?_
      rintro e w4 ⟨rfl, hb4⟩
      have hz4 := hb4.size
      try simp at hz4
      have kc4_0 := fun o => hb4.cell (p := ⟨w.heap.size, o, none⟩) (by (try simp) <;> (try omega))
      have kf4_0 := fun o => hb4.frozen (p := ⟨w.heap.size, o, none⟩) (by (try simp) <;> (try omega))
      have hl4_0 : w.heap.size < w4.heap.size := by omega
      have kc4_1 := fun o => hb4.cell (p := ⟨w3.heap.size, o, none⟩) (by (try simp) <;> (try omega))
      have kf4_1 := fun o => hb4.frozen (p := ⟨w3.heap.size, o, none⟩) (by (try simp) <;> (try omega))
      have hl4_1 : w3.heap.size < w4.heap.size := by omega
      go_wp2_with fail
      refine (implSync_c _ _ _).mono ?_
      rintro e w5 ⟨rfl, hb5⟩
      rw [HE.out]
      have hz5 := hb5.size
      try simp at hz5
      have kc5_0 := fun o => hb5.cell (p := ⟨w.heap.size, o, none⟩) (by (try simp) <;> (try omega))
      have kf5_0 := fun o => hb5.frozen (p := ⟨w.heap.size, o, none⟩) (by (try simp) <;> (try omega))
      have hl5_0 : w.heap.size < w5.heap.size := by omega
      have kc5_1 := fun o => hb5.cell (p := ⟨w3.heap.size, o, none⟩) (by (try simp) <;> (try omega))
      have kf5_1 := fun o => hb5.frozen (p := ⟨w3.heap.size, o, none⟩) (by (try simp) <;> (try omega))
      have hl5_1 : w3.heap.size < w5.heap.size := by omega
      go_wp2_with fail
      refine (eqStore_c _ _ _ _ _).mono ?_
      rintro e w6 ⟨rfl, hb6⟩
      simp only [decide_true, Bool.and_self]
      have hz6 := hb6.size
      go_wp2_with fail
      go_ret
      exact ⟨rfl, (by repeat (first | exact Below.refl _ _ | (refine Below.alloc ?_ (by (try simp) <;> (try omega)) _) | (refine Below.setCell ?_ (by (try simp) <;> (try omega)) _) | (refine Below.drew ?_) | (refine Below.trans ?_ (Below.mono (by assumption) (by (try simp) <;> (try omega))))))⟩
set_option maxHeartbeats 1000000 in
theorem lawCrashStore_c (d : ByteArray) (s keep : Int) (w : World) (h3 : d.size ≤ 9223372036854775807) :
    Calls Try.prog 5 #[.agg #[.string d, .int .i64 s], .int .i64 keep] w fun e w' => e = .returned (.bool true) ∧ Below w.heap.size w w' := by
  go_enter Try.func5, Try.ntmps5
  go_wp2_with fail
  refine (szStore_c _ _ _ _ (by omega) (by omega) h3).mono ?_
  rintro e w1 ⟨⟨n, rfl, hn1, hn2⟩, hb1⟩
  have hz1 := hb1.size
  try simp at hz1
  have kc1_0 := fun o => hb1.cell (p := ⟨w.heap.size, o, none⟩) (by (try simp) <;> (try omega))
  have kf1_0 := fun o => hb1.frozen (p := ⟨w.heap.size, o, none⟩) (by (try simp) <;> (try omega))
  have hl1_0 : w.heap.size < w1.heap.size := by omega
  clear hn2
  by_cases hneg : n < 0
  · go_wp2_with fail
    go_ret
    exact ⟨rfl, (by repeat (first | exact Below.refl _ _ | (refine Below.alloc ?_ (by (try simp) <;> (try omega)) _) | (refine Below.setCell ?_ (by (try simp) <;> (try omega)) _) | (refine Below.drew ?_) | (refine Below.trans ?_ (Below.mono (by assumption) (by (try simp) <;> (try omega))))))⟩
  · by_cases hs : storeOK d s = true
    all_goals
      first
      | have hE : crashV d s keep = .tuple #[.agg #[.string (d.extract 0 (cutEnd d s keep).toNat), .int .i64 (cutEnd d s keep)], .int .i64 0] := by simp [crashV, hs]
      | have hE : crashV d s keep = .tuple #[.agg #[.string ⟨#[]⟩, .int .i64 0], .int .i64 1] := by simp [crashV, hs]
      have HE := Lib.hid hE
      clear hE
      go_wp2_with fail
      refine (toStore_c _ _ _).mono ?_
      rintro e w2 ⟨rfl, hb2⟩
      have hz2 := hb2.size
      try simp at hz2
      have kc2_0 := fun o => hb2.cell (p := ⟨w.heap.size, o, none⟩) (by (try simp) <;> (try omega))
      have kf2_0 := fun o => hb2.frozen (p := ⟨w.heap.size, o, none⟩) (by (try simp) <;> (try omega))
      have hl2_0 : w.heap.size < w2.heap.size := by omega
      go_wp2_with fail
      refine (specCrash_c _ _ _ _).mono ?_
      rintro e w3 ⟨rfl, hb3⟩
      rw [HE.out]
      have hz3 := hb3.size
      try simp at hz3
      have kc3_0 := fun o => hb3.cell (p := ⟨w.heap.size, o, none⟩) (by (try simp) <;> (try omega))
      have kf3_0 := fun o => hb3.frozen (p := ⟨w.heap.size, o, none⟩) (by (try simp) <;> (try omega))
      have hl3_0 : w.heap.size < w3.heap.size := by omega
      go_wp2_with fail
      refine (toStore_c _ _ _).mono ?_
      rintro e w4 ⟨rfl, hb4⟩
      have hz4 := hb4.size
      try simp at hz4
      have kc4_0 := fun o => hb4.cell (p := ⟨w.heap.size, o, none⟩) (by (try simp) <;> (try omega))
      have kf4_0 := fun o => hb4.frozen (p := ⟨w.heap.size, o, none⟩) (by (try simp) <;> (try omega))
      have hl4_0 : w.heap.size < w4.heap.size := by omega
      have kc4_1 := fun o => hb4.cell (p := ⟨w3.heap.size, o, none⟩) (by (try simp) <;> (try omega))
      have kf4_1 := fun o => hb4.frozen (p := ⟨w3.heap.size, o, none⟩) (by (try simp) <;> (try omega))
      have hl4_1 : w3.heap.size < w4.heap.size := by omega
      go_wp2_with fail
      refine (implCrash_c _ _ _ _).mono ?_
      rintro e w5 ⟨rfl, hb5⟩
      rw [HE.out]
      have hz5 := hb5.size
      try simp at hz5
      have kc5_0 := fun o => hb5.cell (p := ⟨w.heap.size, o, none⟩) (by (try simp) <;> (try omega))
      have kf5_0 := fun o => hb5.frozen (p := ⟨w.heap.size, o, none⟩) (by (try simp) <;> (try omega))
      have hl5_0 : w.heap.size < w5.heap.size := by omega
      have kc5_1 := fun o => hb5.cell (p := ⟨w3.heap.size, o, none⟩) (by (try simp) <;> (try omega))
      have kf5_1 := fun o => hb5.frozen (p := ⟨w3.heap.size, o, none⟩) (by (try simp) <;> (try omega))
      have hl5_1 : w3.heap.size < w5.heap.size := by omega
      go_wp2_with fail
      refine (eqStore_c _ _ _ _ _).mono ?_
      rintro e w6 ⟨rfl, hb6⟩
      simp only [decide_true, Bool.and_self]
      have hz6 := hb6.size
      go_wp2_with fail
      go_ret
      exact ⟨rfl, (by repeat (first | exact Below.refl _ _ | (refine Below.alloc ?_ (by (try simp) <;> (try omega)) _) | (refine Below.setCell ?_ (by (try simp) <;> (try omega)) _) | (refine Below.drew ?_) | (refine Below.trans ?_ (Below.mono (by assumption) (by (try simp) <;> (try omega))))))⟩
end Go.Proofs.Ytmkgmecpjppgcaa
