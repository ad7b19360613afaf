/- The law FnExactWriteRecords: its walk. -/
import Derived.Test.YtmkgmecpjppgcaaWr4
import Derived.Test.YtmkgmecpjppgcaaStore2
import Derived.Test.YtmkgmecpjppgcaaApplied
namespace Go.Proofs.Ytmkgmecpjppgcaa
set_option linter.unusedVariables false
set_option linter.unusedSimpArgs false
open Go.RowKit
set_option maxRecDepth 100000 in
set_option maxHeartbeats 16000000 in
theorem lawWrite_c (d : ByteArray) (s : Int) (a : Option Addr) (ca : Nat) (xs : List ByteArray) (w : World) (hd : d.size ≤ 9223372036854775807) (ha : Sl strE 1 w a xs) (la : xs.length ≤ 9223372036854775807) (hs : ∀ s ∈ xs, s.size ≤ 9223372036854775807) :
    Calls Try.prog 10 #[.agg #[.string d, .int .i64 s], .slice a xs.length ca] w fun e w' => e = .returned (.bool true) ∧ Below w.heap.size w w' := by
  have HS := Lib.hid hs
  clear hs
  go_enter Try.func10, Try.ntmps10
  go_wp2_with fail
  refine (szStore_c d s _ _ (by omega) (by omega) hd).mono ?_
  rintro e w1 ⟨⟨n, rfl, hn, himp⟩, hb1⟩
  have hz1 := hb1.size
  simp only [World.size_alloc] at hz1
  clear himp
  have q1_0_0 : w1.cell? ⟨w.heap.size, 0, none⟩ = some (.string d) := by
    rw [hb1.cell (p := ⟨w.heap.size, 0, none⟩) (show w.heap.size < _ by (try simp) <;> (try omega))]
    first | assumption | (simp [go_sem, *])
  have q1_0_1 : w1.cell? ⟨w.heap.size, 1, none⟩ = some (.int .i64 s) := by
    rw [hb1.cell (p := ⟨w.heap.size, 1, none⟩) (show w.heap.size < _ by (try simp) <;> (try omega))]
    first | assumption | (simp [go_sem, *])
  have hl1_0 : w.heap.size < w1.heap.size := by omega
  have HB1 : Hid (Below w.heap.size w w1) := ((Below.refl w.heap.size w).alloc (by (try simp) <;> (try omega)) _).trans (hb1.mono (by (try simp) <;> (try omega)))
  clear hb1
  by_cases hneg : n < 0
  · go_wp2_with fail
    go_ret
    exact ⟨rfl, HB1.out⟩
  go_wp2_with fail
  refine (szStringS_c a ca xs n _ (ha.keep HB1.out) la HS.out (by omega) (by omega)).mono ?_
  rintro e w2 ⟨⟨n2, rfl, hn2, himp⟩, hb2⟩
  have hz2 := hb2.size
  have HI := Lib.hid himp
  clear himp
  have q2_0_0 : w2.cell? ⟨w.heap.size, 0, none⟩ = some (.string d) := by
    rw [hb2.cell (p := ⟨w.heap.size, 0, none⟩) (show w.heap.size < _ by (try simp) <;> (try omega))]
    exact q1_0_0
  have q2_0_1 : w2.cell? ⟨w.heap.size, 1, none⟩ = some (.int .i64 s) := by
    rw [hb2.cell (p := ⟨w.heap.size, 1, none⟩) (show w.heap.size < _ by (try simp) <;> (try omega))]
    exact q1_0_1
  have hl2_0 : w.heap.size < w2.heap.size := by omega
  clear q1_0_0 q1_0_1
  have HB2 : Hid (Below w.heap.size w w2) := HB1.out.trans (hb2.mono (by (try simp) <;> (try omega)))
  clear hb2
  by_cases hneg2 : n2 < 0
  · go_wp2_with fail
    go_ret
    exact ⟨rfl, HB2.out⟩
  have l20 := (HI.out (by omega)).1
  obtain ⟨D, S, C, hv⟩ : ∃ D S C, wV d s xs = (D, S, C) := ⟨_, _, _, rfl⟩
  have hrw : Hid (wVal (wV d s xs) = .tuple #[.agg #[.string D, .int .i64 S], .int .i64 C]) := by show _ = _; rw [hv]; rfl
  clear HI hv
  go_wp2_with fail
  refine (toStore_c d s _).mono ?_
  rintro e w3 ⟨rfl, hb3⟩
  have hz3 := hb3.size
  have q3_0_0 : w3.cell? ⟨w.heap.size, 0, none⟩ = some (.string d) := by
    rw [hb3.cell (p := ⟨w.heap.size, 0, none⟩) (show w.heap.size < _ by (try simp) <;> (try omega))]
    exact q2_0_0
  have q3_0_1 : w3.cell? ⟨w.heap.size, 1, none⟩ = some (.int .i64 s) := by
    rw [hb3.cell (p := ⟨w.heap.size, 1, none⟩) (show w.heap.size < _ by (try simp) <;> (try omega))]
    exact q2_0_1
  have hl3_0 : w.heap.size < w3.heap.size := by omega
  clear q2_0_0 q2_0_1
  have HB3 : Hid (Below w.heap.size w w3) := HB2.out.trans (hb3.mono (by (try simp) <;> (try omega)))
  clear hb3
  go_wp2_with fail
  refine (toStringS_c a ca xs _ (ha.keep HB3.out) l20).mono ?_
  rintro e w4 ⟨v4, rfl, hf4, hb4⟩
  have hz4 := hb4.size
  obtain ⟨a4, c4, rfl, hc4, ho4⟩ := id hf4
  have HX44 := Lib.hid hf4.here
  clear hf4 ho4
  have q4_0_0 : w4.cell? ⟨w.heap.size, 0, none⟩ = some (.string d) := by
    rw [hb4.cell (p := ⟨w.heap.size, 0, none⟩) (show w.heap.size < _ by (try simp) <;> (try omega))]
    exact q3_0_0
  have q4_0_1 : w4.cell? ⟨w.heap.size, 1, none⟩ = some (.int .i64 s) := by
    rw [hb4.cell (p := ⟨w.heap.size, 1, none⟩) (show w.heap.size < _ by (try simp) <;> (try omega))]
    exact q3_0_1
  have hl4_0 : w.heap.size < w4.heap.size := by omega
  clear q3_0_0 q3_0_1
  have HB4 : Hid (Below w.heap.size w w4) := HB3.out.trans (hb4.mono (by (try simp) <;> (try omega)))
  clear hb4
  go_wp2_with fail
  refine (specWrite_c d s a4 c4 xs _ (HX44.out.sl fun _ => rfl) l20).mono ?_
  rw [hrw.out]
  rintro e w5 ⟨rfl, hb5⟩
  have hz5 := hb5.size
  have HX45 := Lib.hid (HX44.out.below hb5)
  clear HX44
  have q5_0_0 : w5.cell? ⟨w.heap.size, 0, none⟩ = some (.string d) := by
    rw [hb5.cell (p := ⟨w.heap.size, 0, none⟩) (show w.heap.size < _ by (try simp) <;> (try omega))]
    exact q4_0_0
  have q5_0_1 : w5.cell? ⟨w.heap.size, 1, none⟩ = some (.int .i64 s) := by
    rw [hb5.cell (p := ⟨w.heap.size, 1, none⟩) (show w.heap.size < _ by (try simp) <;> (try omega))]
    exact q4_0_1
  have hl5_0 : w.heap.size < w5.heap.size := by omega
  clear q4_0_0 q4_0_1
  have HB5 : Hid (Below w.heap.size w w5) := HB4.out.trans (hb5.mono (by (try simp) <;> (try omega)))
  clear hb5
  clear HX45
  go_wp2_with fail
  refine (toStringS_c a ca xs _ ((ha.keep HB5.out).alloc _) l20).mono ?_
  rintro e w6 ⟨v6, rfl, hf6, hb6⟩
  have hz6 := hb6.size
  simp only [World.size_alloc] at hz6
  obtain ⟨a6, c6, rfl, hc6, ho6⟩ := id hf6
  have HX66 := Lib.hid hf6.here
  clear hf6 ho6
  have q6_0_0 : w6.cell? ⟨w.heap.size, 0, none⟩ = some (.string d) := by
    rw [hb6.cell (p := ⟨w.heap.size, 0, none⟩) (show w.heap.size < _ by (try simp) <;> (try omega))]
    first | assumption | (simp [go_sem, *])
  have q6_0_1 : w6.cell? ⟨w.heap.size, 1, none⟩ = some (.int .i64 s) := by
    rw [hb6.cell (p := ⟨w.heap.size, 1, none⟩) (show w.heap.size < _ by (try simp) <;> (try omega))]
    first | assumption | (simp [go_sem, *])
  have hl6_0 : w.heap.size < w6.heap.size := by omega
  clear q5_0_0 q5_0_1
  have q6_1_0 : w6.cell? ⟨w5.heap.size, 0, none⟩ = some (.string D) := by
    rw [hb6.cell (p := ⟨w5.heap.size, 0, none⟩) (show w5.heap.size < _ by (try simp) <;> (try omega))]
    first | assumption | (simp [go_sem, *])
  have q6_1_1 : w6.cell? ⟨w5.heap.size, 1, none⟩ = some (.int .i64 S) := by
    rw [hb6.cell (p := ⟨w5.heap.size, 1, none⟩) (show w5.heap.size < _ by (try simp) <;> (try omega))]
    first | assumption | (simp [go_sem, *])
  have hl6_1 : w5.heap.size < w6.heap.size := by omega
  have HB6 : Hid (Below w.heap.size w w6) := (HB5.out.alloc (by (try simp) <;> (try omega)) _).trans (hb6.mono (by (try simp) <;> (try omega)))
  clear hb6
  go_wp2_with fail
  refine (toStore_c d s _).mono ?_
  rintro e w7 ⟨rfl, hb7⟩
  have hz7 := hb7.size
  have HX67 := Lib.hid (HX66.out.below hb7)
  clear HX66
  have q7_0_0 : w7.cell? ⟨w.heap.size, 0, none⟩ = some (.string d) := by
    rw [hb7.cell (p := ⟨w.heap.size, 0, none⟩) (show w.heap.size < _ by (try simp) <;> (try omega))]
    exact q6_0_0
  have q7_0_1 : w7.cell? ⟨w.heap.size, 1, none⟩ = some (.int .i64 s) := by
    rw [hb7.cell (p := ⟨w.heap.size, 1, none⟩) (show w.heap.size < _ by (try simp) <;> (try omega))]
    exact q6_0_1
  have hl7_0 : w.heap.size < w7.heap.size := by omega
  clear q6_0_0 q6_0_1
  have q7_1_0 : w7.cell? ⟨w5.heap.size, 0, none⟩ = some (.string D) := by
    rw [hb7.cell (p := ⟨w5.heap.size, 0, none⟩) (show w5.heap.size < _ by (try simp) <;> (try omega))]
    exact q6_1_0
  have q7_1_1 : w7.cell? ⟨w5.heap.size, 1, none⟩ = some (.int .i64 S) := by
    rw [hb7.cell (p := ⟨w5.heap.size, 1, none⟩) (show w5.heap.size < _ by (try simp) <;> (try omega))]
    exact q6_1_1
  have hl7_1 : w5.heap.size < w7.heap.size := by omega
  clear q6_1_0 q6_1_1
  have HB7 : Hid (Below w.heap.size w w7) := HB6.out.trans (hb7.mono (by (try simp) <;> (try omega)))
  clear hb7
  go_wp2_with fail
  refine (implWrite_c d s a6 c6 xs _ (HX67.out.sl fun _ => rfl) l20).mono ?_
  rw [hrw.out]
  rintro e w8 ⟨rfl, hb8⟩
  have hz8 := hb8.size
  have HX68 := Lib.hid (HX67.out.below hb8)
  clear HX67
  have q8_0_0 : w8.cell? ⟨w.heap.size, 0, none⟩ = some (.string d) := by
    rw [hb8.cell (p := ⟨w.heap.size, 0, none⟩) (show w.heap.size < _ by (try simp) <;> (try omega))]
    exact q7_0_0
  have q8_0_1 : w8.cell? ⟨w.heap.size, 1, none⟩ = some (.int .i64 s) := by
    rw [hb8.cell (p := ⟨w.heap.size, 1, none⟩) (show w.heap.size < _ by (try simp) <;> (try omega))]
    exact q7_0_1
  have hl8_0 : w.heap.size < w8.heap.size := by omega
  clear q7_0_0 q7_0_1
  have q8_1_0 : w8.cell? ⟨w5.heap.size, 0, none⟩ = some (.string D) := by
    rw [hb8.cell (p := ⟨w5.heap.size, 0, none⟩) (show w5.heap.size < _ by (try simp) <;> (try omega))]
    exact q7_1_0
  have q8_1_1 : w8.cell? ⟨w5.heap.size, 1, none⟩ = some (.int .i64 S) := by
    rw [hb8.cell (p := ⟨w5.heap.size, 1, none⟩) (show w5.heap.size < _ by (try simp) <;> (try omega))]
    exact q7_1_1
  have hl8_1 : w5.heap.size < w8.heap.size := by omega
  clear q7_1_0 q7_1_1
  have HB8 : Hid (Below w.heap.size w w8) := HB7.out.trans (hb8.mono (by (try simp) <;> (try omega)))
  clear hb8
  go_wp2_with fail
  refine (eqStore_c D D S S _).mono ?_
  simp only [decide_true, Bool.and_self]
  rintro e w9 ⟨rfl, hb9⟩
  have hz9 := hb9.size
  simp only [World.size_alloc] at hz9
  have HX69 := Lib.hid ((HX68.out.alloc _).below hb9)
  clear HX68
  have q9_0_0 : w9.cell? ⟨w.heap.size, 0, none⟩ = some (.string d) := by
    rw [hb9.cell (p := ⟨w.heap.size, 0, none⟩) (show w.heap.size < _ by (try simp) <;> (try omega))]
    first | assumption | (simp [go_sem, *])
  have q9_0_1 : w9.cell? ⟨w.heap.size, 1, none⟩ = some (.int .i64 s) := by
    rw [hb9.cell (p := ⟨w.heap.size, 1, none⟩) (show w.heap.size < _ by (try simp) <;> (try omega))]
    first | assumption | (simp [go_sem, *])
  have hl9_0 : w.heap.size < w9.heap.size := by omega
  clear q8_0_0 q8_0_1
  have q9_1_0 : w9.cell? ⟨w5.heap.size, 0, none⟩ = some (.string D) := by
    rw [hb9.cell (p := ⟨w5.heap.size, 0, none⟩) (show w5.heap.size < _ by (try simp) <;> (try omega))]
    first | assumption | (simp [go_sem, *])
  have q9_1_1 : w9.cell? ⟨w5.heap.size, 1, none⟩ = some (.int .i64 S) := by
    rw [hb9.cell (p := ⟨w5.heap.size, 1, none⟩) (show w5.heap.size < _ by (try simp) <;> (try omega))]
    first | assumption | (simp [go_sem, *])
  have hl9_1 : w5.heap.size < w9.heap.size := by omega
  clear q8_1_0 q8_1_1
  have q9_2_0 : w9.cell? ⟨w8.heap.size, 0, none⟩ = some (.string D) := by
    rw [hb9.cell (p := ⟨w8.heap.size, 0, none⟩) (show w8.heap.size < _ by (try simp) <;> (try omega))]
    first | assumption | (simp [go_sem, *])
  have q9_2_1 : w9.cell? ⟨w8.heap.size, 1, none⟩ = some (.int .i64 S) := by
    rw [hb9.cell (p := ⟨w8.heap.size, 1, none⟩) (show w8.heap.size < _ by (try simp) <;> (try omega))]
    first | assumption | (simp [go_sem, *])
  have hl9_2 : w8.heap.size < w9.heap.size := by omega
  have HB9 : Hid (Below w.heap.size w w9) := (HB8.out.alloc (by (try simp) <;> (try omega)) _).trans (hb9.mono (by (try simp) <;> (try omega)))
  clear hb9
  go_wp2_with fail
  refine (toStringS_c a ca xs _ (ha.keep HB9.out) l20).mono ?_
  rintro e w10 ⟨v10, rfl, hf10, hb10⟩
  have hz10 := hb10.size
  obtain ⟨a10, c10, rfl, hc10, ho10⟩ := id hf10
  have HX1010 := Lib.hid hf10.here
  clear hf10 ho10
  have HX610 := Lib.hid (HX69.out.below hb10)
  clear HX69
  have q10_0_0 : w10.cell? ⟨w.heap.size, 0, none⟩ = some (.string d) := by
    rw [hb10.cell (p := ⟨w.heap.size, 0, none⟩) (show w.heap.size < _ by (try simp) <;> (try omega))]
    exact q9_0_0
  have q10_0_1 : w10.cell? ⟨w.heap.size, 1, none⟩ = some (.int .i64 s) := by
    rw [hb10.cell (p := ⟨w.heap.size, 1, none⟩) (show w.heap.size < _ by (try simp) <;> (try omega))]
    exact q9_0_1
  have hl10_0 : w.heap.size < w10.heap.size := by omega
  clear q9_0_0 q9_0_1
  have q10_1_0 : w10.cell? ⟨w5.heap.size, 0, none⟩ = some (.string D) := by
    rw [hb10.cell (p := ⟨w5.heap.size, 0, none⟩) (show w5.heap.size < _ by (try simp) <;> (try omega))]
    exact q9_1_0
  have q10_1_1 : w10.cell? ⟨w5.heap.size, 1, none⟩ = some (.int .i64 S) := by
    rw [hb10.cell (p := ⟨w5.heap.size, 1, none⟩) (show w5.heap.size < _ by (try simp) <;> (try omega))]
    exact q9_1_1
  have hl10_1 : w5.heap.size < w10.heap.size := by omega
  clear q9_1_0 q9_1_1
  have q10_2_0 : w10.cell? ⟨w8.heap.size, 0, none⟩ = some (.string D) := by
    rw [hb10.cell (p := ⟨w8.heap.size, 0, none⟩) (show w8.heap.size < _ by (try simp) <;> (try omega))]
    exact q9_2_0
  have q10_2_1 : w10.cell? ⟨w8.heap.size, 1, none⟩ = some (.int .i64 S) := by
    rw [hb10.cell (p := ⟨w8.heap.size, 1, none⟩) (show w8.heap.size < _ by (try simp) <;> (try omega))]
    exact q9_2_1
  have hl10_2 : w8.heap.size < w10.heap.size := by omega
  clear q9_2_0 q9_2_1
  have HB10 : Hid (Below w.heap.size w w10) := HB9.out.trans (hb10.mono (by (try simp) <;> (try omega)))
  clear hb10
  go_wp2_with fail
  refine (eqStringS_c a6 a10 c6 c10 xs xs _ (HX610.out.sl fun _ => rfl) (HX1010.out.sl fun _ => rfl) l20 l20).mono ?_
  simp only [decide_true]
  rintro e w11 ⟨rfl, hb11⟩
  have hz11 := hb11.size
  have HX611 := Lib.hid (HX610.out.below hb11)
  clear HX610
  have HX1011 := Lib.hid (HX1010.out.below hb11)
  clear HX1010
  have q11_0_0 : w11.cell? ⟨w.heap.size, 0, none⟩ = some (.string d) := by
    rw [hb11.cell (p := ⟨w.heap.size, 0, none⟩) (show w.heap.size < _ by (try simp) <;> (try omega))]
    exact q10_0_0
  have q11_0_1 : w11.cell? ⟨w.heap.size, 1, none⟩ = some (.int .i64 s) := by
    rw [hb11.cell (p := ⟨w.heap.size, 1, none⟩) (show w.heap.size < _ by (try simp) <;> (try omega))]
    exact q10_0_1
  have hl11_0 : w.heap.size < w11.heap.size := by omega
  clear q10_0_0 q10_0_1
  have q11_1_0 : w11.cell? ⟨w5.heap.size, 0, none⟩ = some (.string D) := by
    rw [hb11.cell (p := ⟨w5.heap.size, 0, none⟩) (show w5.heap.size < _ by (try simp) <;> (try omega))]
    exact q10_1_0
  have q11_1_1 : w11.cell? ⟨w5.heap.size, 1, none⟩ = some (.int .i64 S) := by
    rw [hb11.cell (p := ⟨w5.heap.size, 1, none⟩) (show w5.heap.size < _ by (try simp) <;> (try omega))]
    exact q10_1_1
  have hl11_1 : w5.heap.size < w11.heap.size := by omega
  clear q10_1_0 q10_1_1
  have q11_2_0 : w11.cell? ⟨w8.heap.size, 0, none⟩ = some (.string D) := by
    rw [hb11.cell (p := ⟨w8.heap.size, 0, none⟩) (show w8.heap.size < _ by (try simp) <;> (try omega))]
    exact q10_2_0
  have q11_2_1 : w11.cell? ⟨w8.heap.size, 1, none⟩ = some (.int .i64 S) := by
    rw [hb11.cell (p := ⟨w8.heap.size, 1, none⟩) (show w8.heap.size < _ by (try simp) <;> (try omega))]
    exact q10_2_1
  have hl11_2 : w8.heap.size < w11.heap.size := by omega
  clear q10_2_0 q10_2_1
  have HB11 : Hid (Below w.heap.size w w11) := HB10.out.trans (hb11.mono (by (try simp) <;> (try omega)))
  clear hb11
  go_wp2_with fail
  go_ret
  exact ⟨rfl, HB11.out⟩
end Go.Proofs.Ytmkgmecpjppgcaa
