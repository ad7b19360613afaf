/- The functions on stores, second part. -/
import Derived.Test.YtmdjcoeijlnloaaStore
namespace Go.Proofs.Ytmdjcoeijlnloaa
set_option linter.unusedVariables false
set_option linter.unusedSimpArgs false
open Go.RowKit
theorem toList_eq (a b : ByteArray) : a.toList = b.toList ↔ a = b := by
  rw [ByteArray.toList_eq, ByteArray.toList_eq]
  constructor
  · intro h
    exact ByteArray.ext (Array.toList_inj.1 h)
  · rintro rfl; rfl
set_option maxHeartbeats 400000 in
theorem eqStore_c (d d' : ByteArray) (s s' : Int) (w : World) :
    Calls Try.prog 32 #[.agg #[.string d, .int .i64 s], .agg #[.string d', .int .i64 s']] w fun e w' => e = .returned (.bool (decide (d = d') && decide (s = s'))) ∧ Below w.heap.size w w' := by
  by_cases h1 : d = d'
  · subst h1
    by_cases h2 : s = s'
    · subst h2
      go_enter Try.func32, Try.ntmps32
      go_wp2_with fail
      go_ret
      exact ⟨by simp, (by repeat (first | exact Below.refl _ _ | (refine Below.alloc ?_ (by (try simp) <;> (try omega)) _) | (refine Below.setCell ?_ (by (try simp) <;> (try omega)) _) | (refine Below.drew ?_) | (refine Below.trans ?_ (Below.mono (by assumption) (by (try simp) <;> (try omega))))))⟩
    · have h2' : (s == s') = false := by simpa using h2
      go_enter Try.func32, Try.ntmps32
      go_wp2_with fail
      go_ret
      exact ⟨by simp [h2], (by repeat (first | exact Below.refl _ _ | (refine Below.alloc ?_ (by (try simp) <;> (try omega)) _) | (refine Below.setCell ?_ (by (try simp) <;> (try omega)) _) | (refine Below.drew ?_) | (refine Below.trans ?_ (Below.mono (by assumption) (by (try simp) <;> (try omega))))))⟩
  · have h1' : (d.toList == d'.toList) = false := by simpa [toList_eq] using h1
    go_enter Try.func32, Try.ntmps32
    go_wp2_with fail
    go_ret
    exact ⟨by simp [h1], (by repeat (first | exact Below.refl _ _ | (refine Below.alloc ?_ (by (try simp) <;> (try omega)) _) | (refine Below.setCell ?_ (by (try simp) <;> (try omega)) _) | (refine Below.drew ?_) | (refine Below.trans ?_ (Below.mono (by assumption) (by (try simp) <;> (try omega))))))⟩
def cutEnd (d : ByteArray) (s keep : Int) : Int := s + max 0 (min keep (d.size - s))
theorem ret_store {d d' : ByteArray} {s s' : Int} (h1 : d = d') (h2 : s = s') : Ending.returned (.agg #[.string d, .int .i64 s]) = .returned (.agg #[.string d', .int .i64 s']) := by rw [h1, h2]
set_option maxHeartbeats 400000 in
theorem crashed_c (d : ByteArray) (s keep : Int) (w : World) (h3 : d.size ≤ 60000) (h4 : 0 ≤ s) (h5 : s ≤ d.size) :
    Calls Try.prog 93 #[.agg #[.string d, .int .i64 s], .int .i64 keep] w fun e w' => e = .returned (.agg #[.string (d.extract 0 (cutEnd d s keep).toNat), .int .i64 (cutEnd d s keep)]) ∧ Below w.heap.size w w' := by
  by_cases k1 : keep ≤ 0 <;> by_cases k2 : keep ≤ d.size - s <;> by_cases k3 : (d.size : Int) ≤ s
  all_goals first | (exfalso; omega) | skip
  all_goals
    have hE1 : cutEnd d s keep = (if keep ≤ 0 then s else if keep ≤ d.size - s then s + keep else s + (d.size - s)) := by unfold cutEnd; split <;> (try split) <;> omega
    rw [hE1]
    simp only [k1, k2, if_true, if_false]
    clear hE1
    go_enter Try.func93, Try.ntmps93
    go_wp2_with fail
    refine ⟨rfl, _, (by simp [results, Try.results93, go_sem]; rfl), ?_⟩
    exact ⟨ret_store (by congr 1 <;> omega) (by omega), (by repeat (first | exact Below.refl _ _ | (refine Below.alloc ?_ (by (try simp) <;> (try omega)) _) | (refine Below.setCell ?_ (by (try simp) <;> (try omega)) _) | (refine Below.drew ?_) | (refine Below.trans ?_ (Below.mono (by assumption) (by (try simp) <;> (try omega))))))⟩
def emptyB : ByteArray := ⟨#[]⟩
def syncV (d : ByteArray) (s : Int) : Value := if storeOK d s then .tuple #[.agg #[.string d, .int .i64 d.size], .int .i64 0] else .tuple #[.agg #[.string ⟨#[]⟩, .int .i64 0], .int .i64 1]
def crashV (d : ByteArray) (s keep : Int) : Value := if storeOK d s then .tuple #[.agg #[.string (d.extract 0 (cutEnd d s keep).toNat), .int .i64 (cutEnd d s keep)], .int .i64 0] else .tuple #[.agg #[.string ⟨#[]⟩, .int .i64 0], .int .i64 1]
theorem storeOK_range {d : ByteArray} {s : Int} (h : storeOK d s = true) : d.size ≤ 60000 ∧ 0 ≤ s ∧ s ≤ d.size := by
  simp [storeOK, inB] at h; exact ⟨h.1, h.2.1, h.2.2⟩
set_option maxHeartbeats 400000 in
theorem implSync_c (d : ByteArray) (s : Int) (w : World) :
    Calls Try.prog 41 #[.agg #[.string d, .int .i64 s]] w fun e w' => e = .returned (syncV d s) ∧ Below w.heap.size w w' := by
  by_cases hs : storeOK d s = true
  · have hE : syncV d s = .tuple #[.agg #[.string d, .int .i64 d.size], .int .i64 0] := by simp [syncV, hs]
    rw [hE]
    clear hE
    go_enter Try.func41, Try.ntmps41
    go_wp2_with fail
    refine (isStore_c _ _ _).mono ?_
    rintro e w1 ⟨rfl, hb1⟩
    have hz1 := hb1.size
    try simp at hz1
    have kc1_0 := fun o => hb1.cell (p := ⟨w.heap.size, o, none⟩) (by (try simp) <;> (try omega))
    have kf1_0 := fun o => hb1.frozen (p := ⟨w.heap.size, o, none⟩) (by (try simp) <;> (try omega))
    have hl1_0 : w.heap.size < w1.heap.size := by omega
    have kc1_1 := fun o => hb1.cell (p := ⟨w.heap.size + 1, o, none⟩) (by (try simp) <;> (try omega))
    have kf1_1 := fun o => hb1.frozen (p := ⟨w.heap.size + 1, o, none⟩) (by (try simp) <;> (try omega))
    have hl1_1 : w.heap.size + 1 < w1.heap.size := by omega
    go_wp2_with fail
    refine ⟨rfl, _, (by simp [results, Try.results41, go_sem, kc1_0, kc1_1]; rfl), ?_⟩
    exact ⟨rfl, (by repeat (first | exact Below.refl _ _ | (refine Below.alloc ?_ (by (try simp) <;> (try omega)) _) | (refine Below.setCell ?_ (by (try simp) <;> (try omega)) _) | (refine Below.drew ?_) | (refine Below.trans ?_ (Below.mono (by assumption) (by (try simp) <;> (try omega))))))⟩
  · have hE : syncV d s = .tuple #[.agg #[.string ⟨#[]⟩, .int .i64 0], .int .i64 1] := by simp [syncV, hs]
    rw [hE]
    clear hE
    go_enter Try.func41, Try.ntmps41
    go_wp2_with fail
    refine (isStore_c _ _ _).mono ?_
    rintro e w1 ⟨rfl, hb1⟩
    have hz1 := hb1.size
    try simp at hz1
    have kc1_0 := fun o => hb1.cell (p := ⟨w.heap.size, o, none⟩) (by (try simp) <;> (try omega))
    have kf1_0 := fun o => hb1.frozen (p := ⟨w.heap.size, o, none⟩) (by (try simp) <;> (try omega))
    have hl1_0 : w.heap.size < w1.heap.size := by omega
    have kc1_1 := fun o => hb1.cell (p := ⟨w.heap.size + 1, o, none⟩) (by (try simp) <;> (try omega))
    have kf1_1 := fun o => hb1.frozen (p := ⟨w.heap.size + 1, o, none⟩) (by (try simp) <;> (try omega))
    have hl1_1 : w.heap.size + 1 < w1.heap.size := by omega
    go_wp2_with fail
    refine ⟨rfl, _, (by simp [results, Try.results41, go_sem, kc1_0, kc1_1]; rfl), ?_⟩
    exact ⟨rfl, (by repeat (first | exact Below.refl _ _ | (refine Below.alloc ?_ (by (try simp) <;> (try omega)) _) | (refine Below.setCell ?_ (by (try simp) <;> (try omega)) _) | (refine Below.drew ?_) | (refine Below.trans ?_ (Below.mono (by assumption) (by (try simp) <;> (try omega))))))⟩
set_option maxHeartbeats 400000 in
theorem implCrash_c (d : ByteArray) (s keep : Int) (w : World) :
    Calls Try.prog 42 #[.agg #[.string d, .int .i64 s], .int .i64 keep] w fun e w' => e = .returned (crashV d s keep) ∧ Below w.heap.size w w' := by
  by_cases hs : storeOK d s = true
  · have hE : crashV d s keep = .tuple #[.agg #[.string (d.extract 0 (cutEnd d s keep).toNat), .int .i64 (cutEnd d s keep)], .int .i64 0] := by simp [crashV, hs]
    obtain ⟨r1, r2, r3⟩ := storeOK_range hs
    rw [hE]
    clear hE
    go_enter Try.func42, Try.ntmps42
    go_wp2_with fail
    refine (isStore_c _ _ _).mono ?_
    rintro e w1 ⟨rfl, hb1⟩
    have hz1 := hb1.size
    try simp at hz1
    have kc1_0 := fun o => hb1.cell (p := ⟨w.heap.size, o, none⟩) (by (try simp) <;> (try omega))
    have kf1_0 := fun o => hb1.frozen (p := ⟨w.heap.size, o, none⟩) (by (try simp) <;> (try omega))
    have hl1_0 : w.heap.size < w1.heap.size := by omega
    have kc1_1 := fun o => hb1.cell (p := ⟨w.heap.size + 1, o, none⟩) (by (try simp) <;> (try omega))
    have kf1_1 := fun o => hb1.frozen (p := ⟨w.heap.size + 1, o, none⟩) (by (try simp) <;> (try omega))
    have hl1_1 : w.heap.size + 1 < w1.heap.size := by omega
    go_wp2_with fail
    refine (crashed_c _ _ _ _ r1 r2 r3).mono ?_
    rintro e w2 ⟨rfl, hb2⟩
    have hz2 := hb2.size
    try simp at hz2
    have kc2_0 := fun o => hb2.cell (p := ⟨w.heap.size, o, none⟩) (by (try simp) <;> (try omega))
    have kf2_0 := fun o => hb2.frozen (p := ⟨w.heap.size, o, none⟩) (by (try simp) <;> (try omega))
    have hl2_0 : w.heap.size < w2.heap.size := by omega
    have kc2_1 := fun o => hb2.cell (p := ⟨w.heap.size + 1, o, none⟩) (by (try simp) <;> (try omega))
    have kf2_1 := fun o => hb2.frozen (p := ⟨w.heap.size + 1, o, none⟩) (by (try simp) <;> (try omega))
    have hl2_1 : w.heap.size + 1 < w2.heap.size := by omega
    go_wp2_with fail
    refine ⟨rfl, _, (by simp [results, Try.results42, go_sem, kc1_0, kc1_1, kc2_0, kc2_1]; rfl), ?_⟩
    exact ⟨rfl, (by repeat (first | exact Below.refl _ _ | (refine Below.alloc ?_ (by (try simp) <;> (try omega)) _) | (refine Below.setCell ?_ (by (try simp) <;> (try omega)) _) | (refine Below.drew ?_) | (refine Below.trans ?_ (Below.mono (by assumption) (by (try simp) <;> (try omega))))))⟩
  · have hE : crashV d s keep = .tuple #[.agg #[.string ⟨#[]⟩, .int .i64 0], .int .i64 1] := by simp [crashV, hs]
    rw [hE]
    clear hE
    go_enter Try.func42, Try.ntmps42
    go_wp2_with fail
    refine (isStore_c _ _ _).mono ?_
    rintro e w1 ⟨rfl, hb1⟩
    have hz1 := hb1.size
    try simp at hz1
    have kc1_0 := fun o => hb1.cell (p := ⟨w.heap.size, o, none⟩) (by (try simp) <;> (try omega))
    have kf1_0 := fun o => hb1.frozen (p := ⟨w.heap.size, o, none⟩) (by (try simp) <;> (try omega))
    have hl1_0 : w.heap.size < w1.heap.size := by omega
    have kc1_1 := fun o => hb1.cell (p := ⟨w.heap.size + 1, o, none⟩) (by (try simp) <;> (try omega))
    have kf1_1 := fun o => hb1.frozen (p := ⟨w.heap.size + 1, o, none⟩) (by (try simp) <;> (try omega))
    have hl1_1 : w.heap.size + 1 < w1.heap.size := by omega
    go_wp2_with fail
    refine ⟨rfl, _, (by simp [results, Try.results42, go_sem, kc1_0, kc1_1]; rfl), ?_⟩
    exact ⟨rfl, (by repeat (first | exact Below.refl _ _ | (refine Below.alloc ?_ (by (try simp) <;> (try omega)) _) | (refine Below.setCell ?_ (by (try simp) <;> (try omega)) _) | (refine Below.drew ?_) | (refine Below.trans ?_ (Below.mono (by assumption) (by (try simp) <;> (try omega))))))⟩
end Go.Proofs.Ytmdjcoeijlnloaa
