/- The law FnExactStateOK: its walk. -/
import Derived.Test.YtmkgmecpjppgcaaState2
import Derived.Test.YtmkgmecpjppgcaaState3
import Derived.Deep.RegionWith
namespace Go.Proofs.Ytmkgmecpjppgcaa
set_option linter.unusedVariables false
set_option linter.unusedSimpArgs false
open Go.RowKit
set_option maxHeartbeats 2000000 in
theorem lawStateOK_c (a : Option Addr) (ca : Nat) (xs : List Ent) (t v : Int) (w : World) (ha : Sl entE 2 w a xs) (la : xs.length ≤ 9223372036854775807) (hs : ∀ s ∈ xs, s.2.size ≤ 9223372036854775807) :
    Calls Try.prog 7 #[.agg #[.int .i64 t, .int .i64 v, .slice a xs.length ca]] w fun e w' => e = .returned (.bool true) ∧ Below w.heap.size w w' := by
  have HS := Lib.hid hs
  clear hs
  go_enter Try.func7, Try.ntmps7
  go_wp2_with fail
  refine (szState_c a ca xs t v _ _ (ha.alloc _) la HS.out (by omega) (by omega)).mono ?_
  rintro e w1 ⟨⟨n, rfl, hn, himp⟩, hb1⟩
  have HI := Lib.hid himp
  clear himp
  have ha1 := (ha.alloc _).keep hb1
  have hz1 := hb1.size
  try simp at hz1
  have kc1_0 := fun o => hb1.cell (p := ⟨w.heap.size, o, none⟩) (by (try simp) <;> (try omega))
  have kf1_0 := fun o => hb1.frozen (p := ⟨w.heap.size, o, none⟩) (by (try simp) <;> (try omega))
  have hl1_0 : w.heap.size < w1.heap.size := by omega
  by_cases hneg : n < 0
  · go_wp2_with fail
    go_ret
    exact ⟨rfl, (by repeat (first | exact Below.refl _ _ | (refine Below.alloc ?_ (by (try simp) <;> (try omega)) _) | (refine Below.setCell ?_ (by (try simp) <;> (try omega)) _) | (refine Below.drew ?_) | (refine Below.trans ?_ (Below.mono (by assumption) (by (try simp) <;> (try omega))))))⟩
  · obtain ⟨hl, hsz⟩ := HI.out (by omega)
    have HZ := Lib.hid hsz
    clear hsz HI
    go_wp2_with fail
    refine (toState_c a ca xs t v _ ha1 hl).mono ?_
    rintro e w2 ⟨a2, c2, rfl, hf2, hb2⟩
    have hs2 := hf2.sl (enc := entE) (fun _ => rfl)
    have ha2 := ha1.keep hb2
    clear hf2
    have hz2 := hb2.size
    try simp at hz2
    have kc2_0 := fun o => hb2.cell (p := ⟨w.heap.size, o, none⟩) (by (try simp) <;> (try omega))
    have kf2_0 := fun o => hb2.frozen (p := ⟨w.heap.size, o, none⟩) (by (try simp) <;> (try omega))
    have hl2_0 : w.heap.size < w2.heap.size := by omega
    go_wp2_with fail
    refine (specStateOK_c a2 c2 xs t v _ hs2 hl HZ.out).mono ?_
    rintro e w3 ⟨rfl, hb3⟩
    have ha3 := ha2.keep hb3
    have hz3 := hb3.size
    try simp at hz3
    have kc3_0 := fun o => hb3.cell (p := ⟨w.heap.size, o, none⟩) (by (try simp) <;> (try omega))
    have kf3_0 := fun o => hb3.frozen (p := ⟨w.heap.size, o, none⟩) (by (try simp) <;> (try omega))
    have hl3_0 : w.heap.size < w3.heap.size := by omega
    go_wp2_with fail
    refine (toState_c a ca xs t v _ ha3 hl).mono ?_
    rintro e w4 ⟨a4, c4, rfl, hf4, hb4⟩
    have hs4 := hf4.sl (enc := entE) (fun _ => rfl)
    have ha4 := ha3.keep hb4
    clear hf4
    have hz4 := hb4.size
    try simp at hz4
    have kc4_0 := fun o => hb4.cell (p := ⟨w.heap.size, o, none⟩) (by (try simp) <;> (try omega))
    have kf4_0 := fun o => hb4.frozen (p := ⟨w.heap.size, o, none⟩) (by (try simp) <;> (try omega))
    have hl4_0 : w.heap.size < w4.heap.size := by omega
    go_wp2_with fail
    refine (implStateOK_c a4 c4 xs t v _ (hs4.alloc _) hl HZ.out).mono ?_
    rintro e w5 ⟨rfl, hb5⟩
    have ha5 := (ha4.alloc _).keep hb5
    have hs5 := (hs4.alloc _).keep hb5
    have hz5 := hb5.size
    try simp at hz5
    have kc5_0 := fun o => hb5.cell (p := ⟨w.heap.size, o, none⟩) (by (try simp) <;> (try omega))
    have kf5_0 := fun o => hb5.frozen (p := ⟨w.heap.size, o, none⟩) (by (try simp) <;> (try omega))
    have hl5_0 : w.heap.size < w5.heap.size := by omega
    have kc5_1 := fun o => hb5.cell (p := ⟨w4.heap.size, o, none⟩) (by (try simp) <;> (try omega))
    have kf5_1 := fun o => hb5.frozen (p := ⟨w4.heap.size, o, none⟩) (by (try simp) <;> (try omega))
    have hl5_1 : w4.heap.size < w5.heap.size := by omega
    go_wp2_with fail
    go_region_with (first
      | (go_at_call 31
         refine (toState_c a ca xs t v _ ha5.drew hl).mono ?_
         rintro e w6 ⟨a6, c6, rfl, hf6, hb6⟩
         have kq0 := fun o => hb6.cell (p := ⟨w4.heap.size, o, none⟩) (by simpa using hl5_1))
      | (go_at_call 33
         refine (eqState_c a4 a6 c4 c6 xs xs t v t v _ (hs5.drew.keep hb6) (hf6.sl (enc := entE) (fun _ => rfl)) hl hl).mono ?_
         rintro e w7 ⟨rfl, hb7⟩
         simp only [decide_true, Bool.and_self]))
    all_goals go_wp2_with fail
    all_goals
      have hz6 := hb6.size
      try simp at hz6
      have hz7 := hb7.size
      go_ret
      exact ⟨rfl, (by repeat (first | exact Below.refl _ _ | (refine Below.alloc ?_ (by (try simp) <;> (try omega)) _) | (refine Below.setCell ?_ (by (try simp) <;> (try omega)) _) | (refine Below.drew ?_) | (refine Below.trans ?_ (Below.mono (by assumption) (by (try simp) <;> (try omega))))))⟩
end Go.Proofs.Ytmkgmecpjppgcaa
