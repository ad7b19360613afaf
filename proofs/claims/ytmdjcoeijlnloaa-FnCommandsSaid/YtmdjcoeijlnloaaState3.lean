/- The laws' helper functions on states. -/
import Derived.Test.YtmdjcoeijlnloaaState
namespace Go.Proofs.Ytmdjcoeijlnloaa
set_option linter.unusedVariables false
set_option linter.unusedSimpArgs false
open Go.RowKit
def FreshState (t v : Int) (xs : List Ent) (w : World) (e : Ending) (w' : World) : Prop :=
  ∃ a c, e = .returned (.agg #[.int .i64 t, .int .i64 v, .slice a xs.length c]) ∧ Fresh entE 109 2 w.heap.size (.slice a xs.length c) xs w' ∧ Below w.heap.size w w'
set_option maxHeartbeats 1000000 in
theorem toState_c (a : Option Addr) (ca : Nat) (xs : List Ent) (t v : Int) (w : World) (ha : Sl entE 2 w a xs) (la : xs.length ≤ 1048576) :
    Calls Try.prog 13 #[.agg #[.int .i64 t, .int .i64 v, .slice a xs.length ca]] w (FreshState t v xs w) := by
  go_enter Try.func13, Try.ntmps13
  go_wp2_with fail
  refine (toEntryS_c a ca xs _ (((ha.alloc _).alloc _).alloc _) la).mono ?_
  rintro e w1 ⟨v1, rfl, hf1, hb1⟩
  obtain ⟨a1, c1, rfl, hc1, ho1⟩ := hf1
  have hz1 := hb1.size
  try simp at hz1
  have kc1_0 := fun o => hb1.cell (p := ⟨w.heap.size, o, none⟩) (by (try simp) <;> (try omega))
  have kf1_0 := fun o => hb1.frozen (p := ⟨w.heap.size, o, none⟩) (by (try simp) <;> (try omega))
  have hl1_0 : w.heap.size < w1.heap.size := by omega
  have kc1_1 := fun o => hb1.cell (p := ⟨w.heap.size + 1, o, none⟩) (by (try simp) <;> (try omega))
  have kf1_1 := fun o => hb1.frozen (p := ⟨w.heap.size + 1, o, none⟩) (by (try simp) <;> (try omega))
  have hl1_1 : w.heap.size + 1 < w1.heap.size := by omega
  have kc1_2 := fun o => hb1.cell (p := ⟨w.heap.size + 1 + 1, o, none⟩) (by (try simp) <;> (try omega))
  have kf1_2 := fun o => hb1.frozen (p := ⟨w.heap.size + 1 + 1, o, none⟩) (by (try simp) <;> (try omega))
  have hl1_2 : w.heap.size + 1 + 1 < w1.heap.size := by omega
  have HO := Lib.hid ho1
  clear ho1
  go_wp2_with fail
  refine ⟨rfl, _, (by simp [results, Try.results13, go_sem, kc1_0, kc1_1, kc1_2]; rfl), ?_⟩
  have hf : Fresh entE 109 2 (w.heap.size + 3) (.slice a1 xs.length c1) xs w1 := ⟨_, _, rfl, hc1, by simpa using HO.out⟩
  exact ⟨a1, c1, rfl, ((((hf.setCell (by simp) _).setCell (by simp) _).setCell (by simp) _).setCell (by simp) _).mono (by omega), (by repeat (first | exact Below.refl _ _ | (refine Below.alloc ?_ (by (try simp) <;> (try omega)) _) | (refine Below.setCell ?_ (by (try simp) <;> (try omega)) _) | (refine Below.drew ?_) | (refine Below.trans ?_ (Below.mono (by assumption) (by (try simp) <;> (try omega))))))⟩
set_option maxHeartbeats 1000000 in
theorem szState_c (a : Option Addr) (ca : Nat) (xs : List Ent) (t v left : Int) (w : World) (ha : Sl entE 2 w a xs) (la : xs.length ≤ 9223372036854775807) (hs : ∀ s ∈ xs, s.2.size ≤ 9223372036854775807) (h0 : 0 ≤ left) (h1 : left ≤ 1048576) :
    Calls Try.prog 11 #[.agg #[.int .i64 t, .int .i64 v, .slice a xs.length ca], .int .i64 left] w (SzRes (xs.length ≤ 1048576 ∧ ∀ s ∈ xs, s.2.size ≤ 1048576) w) := by
  have HS := Lib.hid hs
  clear hs
  go_enter Try.func11, Try.ntmps11
  go_wp2_with fail
  refine (szEntryS_c a ca xs left _ (ha.alloc _) la HS.out h0 h1).mono ?_
  rintro e w1 ⟨⟨n, rfl, hn, himp⟩, hb1⟩
  have HI := Lib.hid himp
  clear himp
  by_cases hneg : n < 0
  all_goals
    go_wp2_with fail
    go_ret
    refine ⟨⟨_, rfl, by omega, fun h => ?_⟩, (by repeat (first | exact Below.refl _ _ | (refine Below.alloc ?_ (by (try simp) <;> (try omega)) _) | (refine Below.setCell ?_ (by (try simp) <;> (try omega)) _) | (refine Below.drew ?_) | (refine Below.trans ?_ (Below.mono (by assumption) (by (try simp) <;> (try omega))))))⟩
  · omega
  · exact HI.out h
set_option maxHeartbeats 1000000 in
theorem eqState_c (a b : Option Addr) (ca cb : Nat) (xs ys : List Ent) (t v t' v' : Int) (w : World) (ha : Sl entE 2 w a xs) (hb : Sl entE 2 w b ys) (la : xs.length ≤ 1048576) (lb : ys.length ≤ 1048576) :
    Calls Try.prog 16 #[.agg #[.int .i64 t, .int .i64 v, .slice a xs.length ca], .agg #[.int .i64 t', .int .i64 v', .slice b ys.length cb]] w
      fun e w' => e = .returned (.bool (decide (t = t') && (decide (v = v') && decide (xs = ys)))) ∧ Below w.heap.size w w' := by
  by_cases h1 : t = t'
  · subst h1
    by_cases h2 : v = v'
    · subst h2
      go_enter Try.func16, Try.ntmps16
      go_wp2_with fail
      refine (eqEntryS_c a b ca cb xs ys _ ((ha.alloc _).alloc _) ((hb.alloc _).alloc _) la lb).mono ?_
      rintro e w1 ⟨rfl, hb1⟩
      cases hd : decide (xs = ys)
      all_goals
        go_wp2_with fail
        go_ret
        exact ⟨by simp [hd], (by repeat (first | exact Below.refl _ _ | (refine Below.alloc ?_ (by (try simp) <;> (try omega)) _) | (refine Below.setCell ?_ (by (try simp) <;> (try omega)) _) | (refine Below.drew ?_) | (refine Below.trans ?_ (Below.mono (by assumption) (by (try simp) <;> (try omega))))))⟩
    · have h2' : (v == v') = false := by simpa using h2
      go_enter Try.func16, Try.ntmps16
      go_wp2_with fail
      go_ret
      exact ⟨by simp [h2], (by repeat (first | exact Below.refl _ _ | (refine Below.alloc ?_ (by (try simp) <;> (try omega)) _) | (refine Below.setCell ?_ (by (try simp) <;> (try omega)) _) | (refine Below.drew ?_) | (refine Below.trans ?_ (Below.mono (by assumption) (by (try simp) <;> (try omega))))))⟩
  · have h1' : (t == t') = false := by simpa using h1
    go_enter Try.func16, Try.ntmps16
    go_wp2_with fail
    go_ret
    exact ⟨by simp [h1], (by repeat (first | exact Below.refl _ _ | (refine Below.alloc ?_ (by (try simp) <;> (try omega)) _) | (refine Below.setCell ?_ (by (try simp) <;> (try omega)) _) | (refine Below.drew ?_) | (refine Below.trans ?_ (Below.mono (by assumption) (by (try simp) <;> (try omega))))))⟩
end Go.Proofs.Ytmdjcoeijlnloaa
