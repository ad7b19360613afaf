/- The law FnExactRecordsOf: its walk. -/
import Derived.Test.YtmdjcoeijlnloaaRec3
import Derived.Test.YtmdjcoeijlnloaaMarkState
import Derived.Deep.RegionHeld3
namespace Go.Proofs.Ytmdjcoeijlnloaa
set_option linter.unusedVariables false
set_option linter.unusedSimpArgs false
open Go.RowKit
set_option maxRecDepth 100000 in
set_option maxHeartbeats 16000000 in
theorem lawRecords_c (t v t' v' : Int) (a b : Option Addr) (ca cb : Nat) (xs ys : List Ent) (w : World) (ha : Sl entE 2 w a xs) (hb : Sl entE 2 w b ys) (la : xs.length ≤ 9223372036854775807) (lb : ys.length ≤ 9223372036854775807) (sa : ∀ s ∈ xs, s.2.size ≤ 9223372036854775807) (sb : ∀ s ∈ ys, s.2.size ≤ 9223372036854775807) :
    Calls Try.prog 3 #[.agg #[.int .i64 t, .int .i64 v, .slice a xs.length ca], .agg #[.int .i64 t', .int .i64 v', .slice b ys.length cb]] w fun e w' => e = .returned (.bool true) ∧ Below w.heap.size w w' := by
  have SA := Lib.hid sa
  have SB := Lib.hid sb
  clear sa sb
  go_enter Try.func3, Try.ntmps3
  go_wp2_with fail
  refine (szState_c a ca xs t v _ _ ((ha.alloc _).alloc _) la SA.out (by omega) (by omega)).mono ?_
  rintro e w1 ⟨⟨n, rfl, hn, himp⟩, hb1⟩
  have hz1 := hb1.size
  simp only [World.size_alloc] at hz1
  have HI := Lib.hid himp
  clear himp
  have q1_0_0 : w1.cell? ⟨w.heap.size, 0, none⟩ = some (.int .i64 t) := by
    rw [hb1.cell (p := ⟨w.heap.size, 0, none⟩) (show w.heap.size < _ by (try simp) <;> (try omega))]
    first | assumption | (simp [go_sem, *])
  have q1_0_1 : w1.cell? ⟨w.heap.size, 1, none⟩ = some (.int .i64 v) := by
    rw [hb1.cell (p := ⟨w.heap.size, 1, none⟩) (show w.heap.size < _ by (try simp) <;> (try omega))]
    first | assumption | (simp [go_sem, *])
  have q1_0_2 : w1.cell? ⟨w.heap.size, 2, none⟩ = some (.slice a xs.length ca) := by
    rw [hb1.cell (p := ⟨w.heap.size, 2, none⟩) (show w.heap.size < _ by (try simp) <;> (try omega))]
    first | assumption | (simp [go_sem, *])
  have hl1_0 : w.heap.size < w1.heap.size := by omega
  have q1_1_0 : w1.cell? ⟨w.heap.size + 1, 0, none⟩ = some (.int .i64 t') := by
    rw [hb1.cell (p := ⟨w.heap.size + 1, 0, none⟩) (show w.heap.size + 1 < _ by (try simp) <;> (try omega))]
    first | assumption | (simp [go_sem, *])
  have q1_1_1 : w1.cell? ⟨w.heap.size + 1, 1, none⟩ = some (.int .i64 v') := by
    rw [hb1.cell (p := ⟨w.heap.size + 1, 1, none⟩) (show w.heap.size + 1 < _ by (try simp) <;> (try omega))]
    first | assumption | (simp [go_sem, *])
  have q1_1_2 : w1.cell? ⟨w.heap.size + 1, 2, none⟩ = some (.slice b ys.length cb) := by
    rw [hb1.cell (p := ⟨w.heap.size + 1, 2, none⟩) (show w.heap.size + 1 < _ by (try simp) <;> (try omega))]
    first | assumption | (simp [go_sem, *])
  have hl1_1 : w.heap.size + 1 < w1.heap.size := by omega
  have HB1 : Hid (Below w.heap.size w w1) := (((Below.refl w.heap.size w).alloc (by (try simp) <;> (try omega)) _).alloc (by (try simp) <;> (try omega)) _).trans (hb1.mono (by (try simp) <;> (try omega)))
  clear hb1
  by_cases hneg : n < 0
  · go_wp2_with fail
    go_ret
    exact ⟨rfl, HB1.out⟩
  go_wp2_with fail
  refine (szState_c b cb ys t' v' n _ (hb.keep HB1.out) lb SB.out (by omega) (by omega)).mono ?_
  rintro e w2 ⟨⟨n2, rfl, hn2, himp⟩, hb2⟩
  have hz2 := hb2.size
  have HI2 := Lib.hid himp
  clear himp
  have q2_0_0 : w2.cell? ⟨w.heap.size, 0, none⟩ = some (.int .i64 t) := by
    rw [hb2.cell (p := ⟨w.heap.size, 0, none⟩) (show w.heap.size < _ by (try simp) <;> (try omega))]
    exact q1_0_0
  have q2_0_1 : w2.cell? ⟨w.heap.size, 1, none⟩ = some (.int .i64 v) := by
    rw [hb2.cell (p := ⟨w.heap.size, 1, none⟩) (show w.heap.size < _ by (try simp) <;> (try omega))]
    exact q1_0_1
  have q2_0_2 : w2.cell? ⟨w.heap.size, 2, none⟩ = some (.slice a xs.length ca) := by
    rw [hb2.cell (p := ⟨w.heap.size, 2, none⟩) (show w.heap.size < _ by (try simp) <;> (try omega))]
    exact q1_0_2
  have hl2_0 : w.heap.size < w2.heap.size := by omega
  clear q1_0_0 q1_0_1 q1_0_2
  have q2_1_0 : w2.cell? ⟨w.heap.size + 1, 0, none⟩ = some (.int .i64 t') := by
    rw [hb2.cell (p := ⟨w.heap.size + 1, 0, none⟩) (show w.heap.size + 1 < _ by (try simp) <;> (try omega))]
    exact q1_1_0
  have q2_1_1 : w2.cell? ⟨w.heap.size + 1, 1, none⟩ = some (.int .i64 v') := by
    rw [hb2.cell (p := ⟨w.heap.size + 1, 1, none⟩) (show w.heap.size + 1 < _ by (try simp) <;> (try omega))]
    exact q1_1_1
  have q2_1_2 : w2.cell? ⟨w.heap.size + 1, 2, none⟩ = some (.slice b ys.length cb) := by
    rw [hb2.cell (p := ⟨w.heap.size + 1, 2, none⟩) (show w.heap.size + 1 < _ by (try simp) <;> (try omega))]
    exact q1_1_2
  have hl2_1 : w.heap.size + 1 < w2.heap.size := by omega
  clear q1_1_0 q1_1_1 q1_1_2
  have HB2 : Hid (Below w.heap.size w w2) := HB1.out.trans (hb2.mono (by (try simp) <;> (try omega)))
  clear hb2
  by_cases hneg2 : n2 < 0
  · go_wp2_with fail
    go_ret
    exact ⟨rfl, HB2.out⟩
  have lx := (HI.out (by omega)).1
  have ly := (HI2.out (by omega)).1
  have SX := Lib.hid (HI.out (by omega)).2
  have SY := Lib.hid (HI2.out (by omega)).2
  have hcl := recOL_length t v t' v' xs ys
  have SP : Hid (∀ (a b : Option Addr) (ca cb : Nat) (w : World), Sl entE 2 w a xs → Sl entE 2 w b ys → Calls Try.prog 12 #[.agg #[.int .i64 t, .int .i64 v, .slice a xs.length ca], .agg #[.int .i64 t', .int .i64 v', .slice b ys.length cb]] w (TupR (recOL t v xs t' v' ys) (recOC t v xs t' v' ys) w)) := Lib.hid (fun a b ca cb w ha hb => specRecords_c a b ca cb t v t' v' xs ys w ha hb lx ly SX.out SY.out)
  have IP : Hid (∀ (a b : Option Addr) (ca cb : Nat) (w : World), Sl entE 2 w a xs → Sl entE 2 w b ys → ys.length ≤ cb → Calls Try.prog 14 #[.agg #[.int .i64 t, .int .i64 v, .slice a xs.length ca], .agg #[.int .i64 t', .int .i64 v', .slice b ys.length cb]] w (TupR (recOL t v xs t' v' ys) (recOC t v xs t' v' ys) w)) := Lib.hid (fun a b ca cb w ha hb hc => implRecords_c a b ca cb t v t' v' xs ys w ha hb lx ly SX.out SY.out hc)
  generalize recOL t v xs t' v' ys = R at *
  generalize recOC t v xs t' v' ys = C at *
  clear HI HI2 SX SY
  go_wp2_with fail
  go_region_held3 (fun w' => w'.cell? ⟨w.heap.size, 0, none⟩ = some (.int .i64 t) ∧ w'.cell? ⟨w.heap.size, 1, none⟩ = some (.int .i64 v) ∧ w'.cell? ⟨w.heap.size, 2, none⟩ = some (.slice a xs.length ca) ∧ w'.cell? ⟨w.heap.size + 1, 0, none⟩ = some (.int .i64 t') ∧ w'.cell? ⟨w.heap.size + 1, 1, none⟩ = some (.int .i64 v') ∧ w'.cell? ⟨w.heap.size + 1, 2, none⟩ = some (.slice b ys.length cb))
    (first | go_keep | (repeat' apply And.intro) <;> assumption)
    (first
    | (have tok5 := hb4
       clear tok5
       go_at_call 12
       refine (SP.out a3 a4 c3 c4 _ ((hf3.below hb4).here.sl fun _ => rfl) (hf4.here.sl fun _ => rfl)).mono ?_
       rintro e w5 ⟨a5, c5, rfl, hf5, hb5⟩
       have hz5 := hb5.size
       try simp at hz5
       have q5_0_0 : w5.cell? ⟨w.heap.size, 0, none⟩ = some (.int .i64 t) := by
         rw [hb5.cell (p := ⟨w.heap.size, 0, none⟩) (show w.heap.size < _ by (try simp) <;> (try omega))]
         first | assumption | (simp [go_sem, *])
       have q5_0_1 : w5.cell? ⟨w.heap.size, 1, none⟩ = some (.int .i64 v) := by
         rw [hb5.cell (p := ⟨w.heap.size, 1, none⟩) (show w.heap.size < _ by (try simp) <;> (try omega))]
         first | assumption | (simp [go_sem, *])
       have q5_0_2 : w5.cell? ⟨w.heap.size, 2, none⟩ = some (.slice a xs.length ca) := by
         rw [hb5.cell (p := ⟨w.heap.size, 2, none⟩) (show w.heap.size < _ by (try simp) <;> (try omega))]
         first | assumption | (simp [go_sem, *])
       have hl5_0 : w.heap.size < w5.heap.size := by omega
       have q5_1_0 : w5.cell? ⟨w.heap.size + 1, 0, none⟩ = some (.int .i64 t') := by
         rw [hb5.cell (p := ⟨w.heap.size + 1, 0, none⟩) (show w.heap.size + 1 < _ by (try simp) <;> (try omega))]
         first | assumption | (simp [go_sem, *])
       have q5_1_1 : w5.cell? ⟨w.heap.size + 1, 1, none⟩ = some (.int .i64 v') := by
         rw [hb5.cell (p := ⟨w.heap.size + 1, 1, none⟩) (show w.heap.size + 1 < _ by (try simp) <;> (try omega))]
         first | assumption | (simp [go_sem, *])
       have q5_1_2 : w5.cell? ⟨w.heap.size + 1, 2, none⟩ = some (.slice b ys.length cb) := by
         rw [hb5.cell (p := ⟨w.heap.size + 1, 2, none⟩) (show w.heap.size + 1 < _ by (try simp) <;> (try omega))]
         first | assumption | (simp [go_sem, *])
       have hl5_1 : w.heap.size + 1 < w5.heap.size := by omega)
    | (have tok4 := hb3
       clear tok4
       go_at_call 13
       refine (toState_c b cb ys t' v' _ ((hb.keep (HB2.out.drew)).keep hb3) ly).mono ?_
       rintro e w4 ⟨a4, c4, rfl, hf4, hb4⟩
       have hz4 := hb4.size
       try simp at hz4
       have q4_0_0 : w4.cell? ⟨w.heap.size, 0, none⟩ = some (.int .i64 t) := by
         rw [hb4.cell (p := ⟨w.heap.size, 0, none⟩) (show w.heap.size < _ by (try simp) <;> (try omega))]
         first | assumption | (simp [go_sem, *])
       have q4_0_1 : w4.cell? ⟨w.heap.size, 1, none⟩ = some (.int .i64 v) := by
         rw [hb4.cell (p := ⟨w.heap.size, 1, none⟩) (show w.heap.size < _ by (try simp) <;> (try omega))]
         first | assumption | (simp [go_sem, *])
       have q4_0_2 : w4.cell? ⟨w.heap.size, 2, none⟩ = some (.slice a xs.length ca) := by
         rw [hb4.cell (p := ⟨w.heap.size, 2, none⟩) (show w.heap.size < _ by (try simp) <;> (try omega))]
         first | assumption | (simp [go_sem, *])
       have hl4_0 : w.heap.size < w4.heap.size := by omega
       have q4_1_0 : w4.cell? ⟨w.heap.size + 1, 0, none⟩ = some (.int .i64 t') := by
         rw [hb4.cell (p := ⟨w.heap.size + 1, 0, none⟩) (show w.heap.size + 1 < _ by (try simp) <;> (try omega))]
         first | assumption | (simp [go_sem, *])
       have q4_1_1 : w4.cell? ⟨w.heap.size + 1, 1, none⟩ = some (.int .i64 v') := by
         rw [hb4.cell (p := ⟨w.heap.size + 1, 1, none⟩) (show w.heap.size + 1 < _ by (try simp) <;> (try omega))]
         first | assumption | (simp [go_sem, *])
       have q4_1_2 : w4.cell? ⟨w.heap.size + 1, 2, none⟩ = some (.slice b ys.length cb) := by
         rw [hb4.cell (p := ⟨w.heap.size + 1, 2, none⟩) (show w.heap.size + 1 < _ by (try simp) <;> (try omega))]
         first | assumption | (simp [go_sem, *])
       have hl4_1 : w.heap.size + 1 < w4.heap.size := by omega)
    | (go_at_call 13
       refine (toState_c a ca xs t v _ (ha.keep (HB2.out.drew)) lx).mono ?_
       rintro e w3 ⟨a3, c3, rfl, hf3, hb3⟩
       have hz3 := hb3.size
       try simp at hz3
       have q3_0_0 : w3.cell? ⟨w.heap.size, 0, none⟩ = some (.int .i64 t) := by
         rw [hb3.cell (p := ⟨w.heap.size, 0, none⟩) (show w.heap.size < _ by (try simp) <;> (try omega))]
         first | assumption | (simp [go_sem, *])
       have q3_0_1 : w3.cell? ⟨w.heap.size, 1, none⟩ = some (.int .i64 v) := by
         rw [hb3.cell (p := ⟨w.heap.size, 1, none⟩) (show w.heap.size < _ by (try simp) <;> (try omega))]
         first | assumption | (simp [go_sem, *])
       have q3_0_2 : w3.cell? ⟨w.heap.size, 2, none⟩ = some (.slice a xs.length ca) := by
         rw [hb3.cell (p := ⟨w.heap.size, 2, none⟩) (show w.heap.size < _ by (try simp) <;> (try omega))]
         first | assumption | (simp [go_sem, *])
       have hl3_0 : w.heap.size < w3.heap.size := by omega
       have q3_1_0 : w3.cell? ⟨w.heap.size + 1, 0, none⟩ = some (.int .i64 t') := by
         rw [hb3.cell (p := ⟨w.heap.size + 1, 0, none⟩) (show w.heap.size + 1 < _ by (try simp) <;> (try omega))]
         first | assumption | (simp [go_sem, *])
       have q3_1_1 : w3.cell? ⟨w.heap.size + 1, 1, none⟩ = some (.int .i64 v') := by
         rw [hb3.cell (p := ⟨w.heap.size + 1, 1, none⟩) (show w.heap.size + 1 < _ by (try simp) <;> (try omega))]
         first | assumption | (simp [go_sem, *])
       have q3_1_2 : w3.cell? ⟨w.heap.size + 1, 2, none⟩ = some (.slice b ys.length cb) := by
         rw [hb3.cell (p := ⟨w.heap.size + 1, 2, none⟩) (show w.heap.size + 1 < _ by (try simp) <;> (try omega))]
         first | assumption | (simp [go_sem, *])
       have hl3_1 : w.heap.size + 1 < w3.heap.size := by omega))
  have hr5 : Below w2.heap.size w2 w5 := (((((Below.refl _ _).drew).trans (hb3.mono (by (try simp) <;> (try omega)))).trans (hb4.mono (by (try simp) <;> (try omega)))).trans (hb5.mono (by (try simp) <;> (try omega))))
  have hzr5 := hr5.size
  have HB5 : Hid (Below w.heap.size w w5) := HB2.out.trans (hr5.mono (by omega))
  clear q2_0_0 q2_0_1 q2_0_2 q3_0_0 q3_0_1 q3_0_2 q4_0_0 q4_0_1 q4_0_2 q2_1_0 q2_1_1 q2_1_2 q3_1_0 q3_1_1 q3_1_2 q4_1_0 q4_1_1 q4_1_2 hb3 hb4 hb5 hr5
  have HG5 := Lib.hid hf5.here
  clear hf3 hf4 hf5
  go_wp2_with fail
  refine (toState_c a ca xs t v _ (ha.keep HB5.out) lx).mono ?_
  rintro e w6 ⟨a6, c6, rfl, hf6, hb6⟩
  have hz6 := hb6.size
  have HX66 := Lib.hid (show FreshIn entE 109 2 (w5.heap.size) w6.heap.size (.slice a6 xs.length c6) xs w6 from (by simpa using hf6.here))
  clear hf6
  have HG56 := Lib.hid (HG5.out.below hb6)
  clear HG5
  have q6_0_0 : w6.cell? ⟨w.heap.size, 0, none⟩ = some (.int .i64 t) := by
    rw [hb6.cell (p := ⟨w.heap.size, 0, none⟩) (show w.heap.size < _ by (try simp) <;> (try omega))]
    exact q5_0_0
  have q6_0_1 : w6.cell? ⟨w.heap.size, 1, none⟩ = some (.int .i64 v) := by
    rw [hb6.cell (p := ⟨w.heap.size, 1, none⟩) (show w.heap.size < _ by (try simp) <;> (try omega))]
    exact q5_0_1
  have q6_0_2 : w6.cell? ⟨w.heap.size, 2, none⟩ = some (.slice a xs.length ca) := by
    rw [hb6.cell (p := ⟨w.heap.size, 2, none⟩) (show w.heap.size < _ by (try simp) <;> (try omega))]
    exact q5_0_2
  have hl6_0 : w.heap.size < w6.heap.size := by omega
  clear q5_0_0 q5_0_1 q5_0_2
  have q6_1_0 : w6.cell? ⟨w.heap.size + 1, 0, none⟩ = some (.int .i64 t') := by
    rw [hb6.cell (p := ⟨w.heap.size + 1, 0, none⟩) (show w.heap.size + 1 < _ by (try simp) <;> (try omega))]
    exact q5_1_0
  have q6_1_1 : w6.cell? ⟨w.heap.size + 1, 1, none⟩ = some (.int .i64 v') := by
    rw [hb6.cell (p := ⟨w.heap.size + 1, 1, none⟩) (show w.heap.size + 1 < _ by (try simp) <;> (try omega))]
    exact q5_1_1
  have q6_1_2 : w6.cell? ⟨w.heap.size + 1, 2, none⟩ = some (.slice b ys.length cb) := by
    rw [hb6.cell (p := ⟨w.heap.size + 1, 2, none⟩) (show w.heap.size + 1 < _ by (try simp) <;> (try omega))]
    exact q5_1_2
  have hl6_1 : w.heap.size + 1 < w6.heap.size := by omega
  clear q5_1_0 q5_1_1 q5_1_2
  have HB6 : Hid (Below w.heap.size w w6) := HB5.out.trans (hb6.mono (by (try simp) <;> (try omega)))
  clear hb6
  go_wp2_with fail
  refine (toState_c b cb ys t' v' _ ((hb.keep HB6.out).alloc _) ly).mono ?_
  rintro e w7 ⟨a7, c7, rfl, hf7, hb7⟩
  have hz7 := hb7.size
  simp only [World.size_alloc] at hz7
  have HX77 := Lib.hid (show FreshIn entE 109 2 (w6.heap.size + 1) w7.heap.size (.slice a7 ys.length c7) ys w7 from (by simpa using hf7.here))
  clear hf7
  have HG57 := Lib.hid ((HG56.out.alloc _).below hb7)
  clear HG56
  have HX67 := Lib.hid ((HX66.out.alloc _).below hb7)
  clear HX66
  have q7_0_0 : w7.cell? ⟨w.heap.size, 0, none⟩ = some (.int .i64 t) := by
    rw [hb7.cell (p := ⟨w.heap.size, 0, none⟩) (show w.heap.size < _ by (try simp) <;> (try omega))]
    first | assumption | (simp [go_sem, *])
  have q7_0_1 : w7.cell? ⟨w.heap.size, 1, none⟩ = some (.int .i64 v) := by
    rw [hb7.cell (p := ⟨w.heap.size, 1, none⟩) (show w.heap.size < _ by (try simp) <;> (try omega))]
    first | assumption | (simp [go_sem, *])
  have q7_0_2 : w7.cell? ⟨w.heap.size, 2, none⟩ = some (.slice a xs.length ca) := by
    rw [hb7.cell (p := ⟨w.heap.size, 2, none⟩) (show w.heap.size < _ by (try simp) <;> (try omega))]
    first | assumption | (simp [go_sem, *])
  have hl7_0 : w.heap.size < w7.heap.size := by omega
  clear q6_0_0 q6_0_1 q6_0_2
  have q7_1_0 : w7.cell? ⟨w.heap.size + 1, 0, none⟩ = some (.int .i64 t') := by
    rw [hb7.cell (p := ⟨w.heap.size + 1, 0, none⟩) (show w.heap.size + 1 < _ by (try simp) <;> (try omega))]
    first | assumption | (simp [go_sem, *])
  have q7_1_1 : w7.cell? ⟨w.heap.size + 1, 1, none⟩ = some (.int .i64 v') := by
    rw [hb7.cell (p := ⟨w.heap.size + 1, 1, none⟩) (show w.heap.size + 1 < _ by (try simp) <;> (try omega))]
    first | assumption | (simp [go_sem, *])
  have q7_1_2 : w7.cell? ⟨w.heap.size + 1, 2, none⟩ = some (.slice b ys.length cb) := by
    rw [hb7.cell (p := ⟨w.heap.size + 1, 2, none⟩) (show w.heap.size + 1 < _ by (try simp) <;> (try omega))]
    first | assumption | (simp [go_sem, *])
  have hl7_1 : w.heap.size + 1 < w7.heap.size := by omega
  clear q6_1_0 q6_1_1 q6_1_2
  have q7_2_0 : w7.cell? ⟨w6.heap.size, 0, none⟩ = some (.int .i64 t) := by
    rw [hb7.cell (p := ⟨w6.heap.size, 0, none⟩) (show w6.heap.size < _ by (try simp) <;> (try omega))]
    first | assumption | (simp [go_sem, *])
  have q7_2_1 : w7.cell? ⟨w6.heap.size, 1, none⟩ = some (.int .i64 v) := by
    rw [hb7.cell (p := ⟨w6.heap.size, 1, none⟩) (show w6.heap.size < _ by (try simp) <;> (try omega))]
    first | assumption | (simp [go_sem, *])
  have q7_2_2 : w7.cell? ⟨w6.heap.size, 2, none⟩ = some (.slice a6 xs.length c6) := by
    rw [hb7.cell (p := ⟨w6.heap.size, 2, none⟩) (show w6.heap.size < _ by (try simp) <;> (try omega))]
    first | assumption | (simp [go_sem, *])
  have hl7_2 : w6.heap.size < w7.heap.size := by omega
  have HB7 : Hid (Below w.heap.size w w7) := (HB6.out.alloc (by (try simp) <;> (try omega)) _).trans (hb7.mono (by (try simp) <;> (try omega)))
  clear hb7
  go_wp2_with fail
  refine (IP.out a6 a7 c6 c7 _ ((HX67.out.alloc _).sl fun _ => rfl) ((HX77.out.alloc _).sl fun _ => rfl) (HX77.out.fits)).mono ?_
  rintro e w8 ⟨a8, c8, rfl, hf8, hb8⟩
  have hz8 := hb8.size
  simp only [World.size_alloc] at hz8
  have HG88 := Lib.hid (show FreshIn strE 9 1 (w7.heap.size + 1) w8.heap.size (.slice a8 R.length c8) R w8 from (by simpa using hf8.here))
  clear hf8
  have HG58 := Lib.hid ((HG57.out.alloc _).below hb8)
  clear HG57
  have HX68 := Lib.hid ((HX67.out.alloc _).below hb8)
  clear HX67
  have HX78 := Lib.hid ((HX77.out.alloc _).below hb8)
  clear HX77
  have q8_0_0 : w8.cell? ⟨w.heap.size, 0, none⟩ = some (.int .i64 t) := by
    rw [hb8.cell (p := ⟨w.heap.size, 0, none⟩) (show w.heap.size < _ by (try simp) <;> (try omega))]
    first | assumption | (simp [go_sem, *])
  have q8_0_1 : w8.cell? ⟨w.heap.size, 1, none⟩ = some (.int .i64 v) := by
    rw [hb8.cell (p := ⟨w.heap.size, 1, none⟩) (show w.heap.size < _ by (try simp) <;> (try omega))]
    first | assumption | (simp [go_sem, *])
  have q8_0_2 : w8.cell? ⟨w.heap.size, 2, none⟩ = some (.slice a xs.length ca) := by
    rw [hb8.cell (p := ⟨w.heap.size, 2, none⟩) (show w.heap.size < _ by (try simp) <;> (try omega))]
    first | assumption | (simp [go_sem, *])
  have hl8_0 : w.heap.size < w8.heap.size := by omega
  clear q7_0_0 q7_0_1 q7_0_2
  have q8_1_0 : w8.cell? ⟨w.heap.size + 1, 0, none⟩ = some (.int .i64 t') := by
    rw [hb8.cell (p := ⟨w.heap.size + 1, 0, none⟩) (show w.heap.size + 1 < _ by (try simp) <;> (try omega))]
    first | assumption | (simp [go_sem, *])
  have q8_1_1 : w8.cell? ⟨w.heap.size + 1, 1, none⟩ = some (.int .i64 v') := by
    rw [hb8.cell (p := ⟨w.heap.size + 1, 1, none⟩) (show w.heap.size + 1 < _ by (try simp) <;> (try omega))]
    first | assumption | (simp [go_sem, *])
  have q8_1_2 : w8.cell? ⟨w.heap.size + 1, 2, none⟩ = some (.slice b ys.length cb) := by
    rw [hb8.cell (p := ⟨w.heap.size + 1, 2, none⟩) (show w.heap.size + 1 < _ by (try simp) <;> (try omega))]
    first | assumption | (simp [go_sem, *])
  have hl8_1 : w.heap.size + 1 < w8.heap.size := by omega
  clear q7_1_0 q7_1_1 q7_1_2
  have q8_2_0 : w8.cell? ⟨w6.heap.size, 0, none⟩ = some (.int .i64 t) := by
    rw [hb8.cell (p := ⟨w6.heap.size, 0, none⟩) (show w6.heap.size < _ by (try simp) <;> (try omega))]
    first | assumption | (simp [go_sem, *])
  have q8_2_1 : w8.cell? ⟨w6.heap.size, 1, none⟩ = some (.int .i64 v) := by
    rw [hb8.cell (p := ⟨w6.heap.size, 1, none⟩) (show w6.heap.size < _ by (try simp) <;> (try omega))]
    first | assumption | (simp [go_sem, *])
  have q8_2_2 : w8.cell? ⟨w6.heap.size, 2, none⟩ = some (.slice a6 xs.length c6) := by
    rw [hb8.cell (p := ⟨w6.heap.size, 2, none⟩) (show w6.heap.size < _ by (try simp) <;> (try omega))]
    first | assumption | (simp [go_sem, *])
  have hl8_2 : w6.heap.size < w8.heap.size := by omega
  clear q7_2_0 q7_2_1 q7_2_2
  have q8_3_0 : w8.cell? ⟨w7.heap.size, 0, none⟩ = some (.int .i64 t') := by
    rw [hb8.cell (p := ⟨w7.heap.size, 0, none⟩) (show w7.heap.size < _ by (try simp) <;> (try omega))]
    first | assumption | (simp [go_sem, *])
  have q8_3_1 : w8.cell? ⟨w7.heap.size, 1, none⟩ = some (.int .i64 v') := by
    rw [hb8.cell (p := ⟨w7.heap.size, 1, none⟩) (show w7.heap.size < _ by (try simp) <;> (try omega))]
    first | assumption | (simp [go_sem, *])
  have q8_3_2 : w8.cell? ⟨w7.heap.size, 2, none⟩ = some (.slice a7 ys.length c7) := by
    rw [hb8.cell (p := ⟨w7.heap.size, 2, none⟩) (show w7.heap.size < _ by (try simp) <;> (try omega))]
    first | assumption | (simp [go_sem, *])
  have hl8_3 : w7.heap.size < w8.heap.size := by omega
  have HB8 : Hid (Below w.heap.size w w8) := (HB7.out.alloc (by (try simp) <;> (try omega)) _).trans (hb8.mono (by (try simp) <;> (try omega)))
  clear hb8
  go_wp2_with fail
  refine (eqStringS_c a8 a5 c8 c5 R R _ (HG88.out.sl fun _ => rfl) (HG58.out.sl fun _ => rfl) (by omega) (by omega)).mono ?_
  simp only [decide_true]
  rintro e w9 ⟨rfl, hb9⟩
  have hz9 := hb9.size
  have HG59 := Lib.hid (HG58.out.below hb9)
  clear HG58
  have HX69 := Lib.hid (HX68.out.below hb9)
  clear HX68
  have HX79 := Lib.hid (HX78.out.below hb9)
  clear HX78
  have HG89 := Lib.hid (HG88.out.below hb9)
  clear HG88
  have q9_0_0 : w9.cell? ⟨w.heap.size, 0, none⟩ = some (.int .i64 t) := by
    rw [hb9.cell (p := ⟨w.heap.size, 0, none⟩) (show w.heap.size < _ by (try simp) <;> (try omega))]
    exact q8_0_0
  have q9_0_1 : w9.cell? ⟨w.heap.size, 1, none⟩ = some (.int .i64 v) := by
    rw [hb9.cell (p := ⟨w.heap.size, 1, none⟩) (show w.heap.size < _ by (try simp) <;> (try omega))]
    exact q8_0_1
  have q9_0_2 : w9.cell? ⟨w.heap.size, 2, none⟩ = some (.slice a xs.length ca) := by
    rw [hb9.cell (p := ⟨w.heap.size, 2, none⟩) (show w.heap.size < _ by (try simp) <;> (try omega))]
    exact q8_0_2
  have hl9_0 : w.heap.size < w9.heap.size := by omega
  clear q8_0_0 q8_0_1 q8_0_2
  have q9_1_0 : w9.cell? ⟨w.heap.size + 1, 0, none⟩ = some (.int .i64 t') := by
    rw [hb9.cell (p := ⟨w.heap.size + 1, 0, none⟩) (show w.heap.size + 1 < _ by (try simp) <;> (try omega))]
    exact q8_1_0
  have q9_1_1 : w9.cell? ⟨w.heap.size + 1, 1, none⟩ = some (.int .i64 v') := by
    rw [hb9.cell (p := ⟨w.heap.size + 1, 1, none⟩) (show w.heap.size + 1 < _ by (try simp) <;> (try omega))]
    exact q8_1_1
  have q9_1_2 : w9.cell? ⟨w.heap.size + 1, 2, none⟩ = some (.slice b ys.length cb) := by
    rw [hb9.cell (p := ⟨w.heap.size + 1, 2, none⟩) (show w.heap.size + 1 < _ by (try simp) <;> (try omega))]
    exact q8_1_2
  have hl9_1 : w.heap.size + 1 < w9.heap.size := by omega
  clear q8_1_0 q8_1_1 q8_1_2
  have q9_2_0 : w9.cell? ⟨w6.heap.size, 0, none⟩ = some (.int .i64 t) := by
    rw [hb9.cell (p := ⟨w6.heap.size, 0, none⟩) (show w6.heap.size < _ by (try simp) <;> (try omega))]
    exact q8_2_0
  have q9_2_1 : w9.cell? ⟨w6.heap.size, 1, none⟩ = some (.int .i64 v) := by
    rw [hb9.cell (p := ⟨w6.heap.size, 1, none⟩) (show w6.heap.size < _ by (try simp) <;> (try omega))]
    exact q8_2_1
  have q9_2_2 : w9.cell? ⟨w6.heap.size, 2, none⟩ = some (.slice a6 xs.length c6) := by
    rw [hb9.cell (p := ⟨w6.heap.size, 2, none⟩) (show w6.heap.size < _ by (try simp) <;> (try omega))]
    exact q8_2_2
  have hl9_2 : w6.heap.size < w9.heap.size := by omega
  clear q8_2_0 q8_2_1 q8_2_2
  have q9_3_0 : w9.cell? ⟨w7.heap.size, 0, none⟩ = some (.int .i64 t') := by
    rw [hb9.cell (p := ⟨w7.heap.size, 0, none⟩) (show w7.heap.size < _ by (try simp) <;> (try omega))]
    exact q8_3_0
  have q9_3_1 : w9.cell? ⟨w7.heap.size, 1, none⟩ = some (.int .i64 v') := by
    rw [hb9.cell (p := ⟨w7.heap.size, 1, none⟩) (show w7.heap.size < _ by (try simp) <;> (try omega))]
    exact q8_3_1
  have q9_3_2 : w9.cell? ⟨w7.heap.size, 2, none⟩ = some (.slice a7 ys.length c7) := by
    rw [hb9.cell (p := ⟨w7.heap.size, 2, none⟩) (show w7.heap.size < _ by (try simp) <;> (try omega))]
    exact q8_3_2
  have hl9_3 : w7.heap.size < w9.heap.size := by omega
  clear q8_3_0 q8_3_1 q8_3_2
  have HB9 : Hid (Below w.heap.size w w9) := HB8.out.trans (hb9.mono (by (try simp) <;> (try omega)))
  clear hb9
  go_wp2_with fail
  go_region_held3 (fun w' => w'.cell? ⟨w.heap.size, 0, none⟩ = some (.int .i64 t) ∧ w'.cell? ⟨w.heap.size, 1, none⟩ = some (.int .i64 v) ∧ w'.cell? ⟨w.heap.size, 2, none⟩ = some (.slice a xs.length ca) ∧ w'.cell? ⟨w.heap.size + 1, 0, none⟩ = some (.int .i64 t') ∧ w'.cell? ⟨w.heap.size + 1, 1, none⟩ = some (.int .i64 v') ∧ w'.cell? ⟨w.heap.size + 1, 2, none⟩ = some (.slice b ys.length cb) ∧ w'.cell? ⟨w6.heap.size, 0, none⟩ = some (.int .i64 t) ∧ w'.cell? ⟨w6.heap.size, 1, none⟩ = some (.int .i64 v) ∧ w'.cell? ⟨w6.heap.size, 2, none⟩ = some (.slice a6 xs.length c6) ∧ w'.cell? ⟨w7.heap.size, 0, none⟩ = some (.int .i64 t') ∧ w'.cell? ⟨w7.heap.size, 1, none⟩ = some (.int .i64 v') ∧ w'.cell? ⟨w7.heap.size, 2, none⟩ = some (.slice a7 ys.length c7))
    (first | go_keep | (repeat' apply And.intro) <;> assumption)
    (first
    | (have tok11 := hb10
       clear tok11
       go_at_call 16
       refine (eqState_same a6 a10 c6 c10 xs t v _ ((HX69.out.drew.below hb10).sl fun _ => rfl) (hf10.here.sl fun _ => rfl) lx).mono ?_
       rintro e w11 ⟨rfl, hb11⟩
       have hz11 := hb11.size
       try simp at hz11
       have q11_0_0 : w11.cell? ⟨w.heap.size, 0, none⟩ = some (.int .i64 t) := by
         rw [hb11.cell (p := ⟨w.heap.size, 0, none⟩) (show w.heap.size < _ by (try simp) <;> (try omega))]
         first | assumption | (simp [go_sem, *])
       have q11_0_1 : w11.cell? ⟨w.heap.size, 1, none⟩ = some (.int .i64 v) := by
         rw [hb11.cell (p := ⟨w.heap.size, 1, none⟩) (show w.heap.size < _ by (try simp) <;> (try omega))]
         first | assumption | (simp [go_sem, *])
       have q11_0_2 : w11.cell? ⟨w.heap.size, 2, none⟩ = some (.slice a xs.length ca) := by
         rw [hb11.cell (p := ⟨w.heap.size, 2, none⟩) (show w.heap.size < _ by (try simp) <;> (try omega))]
         first | assumption | (simp [go_sem, *])
       have hl11_0 : w.heap.size < w11.heap.size := by omega
       have q11_1_0 : w11.cell? ⟨w.heap.size + 1, 0, none⟩ = some (.int .i64 t') := by
         rw [hb11.cell (p := ⟨w.heap.size + 1, 0, none⟩) (show w.heap.size + 1 < _ by (try simp) <;> (try omega))]
         first | assumption | (simp [go_sem, *])
       have q11_1_1 : w11.cell? ⟨w.heap.size + 1, 1, none⟩ = some (.int .i64 v') := by
         rw [hb11.cell (p := ⟨w.heap.size + 1, 1, none⟩) (show w.heap.size + 1 < _ by (try simp) <;> (try omega))]
         first | assumption | (simp [go_sem, *])
       have q11_1_2 : w11.cell? ⟨w.heap.size + 1, 2, none⟩ = some (.slice b ys.length cb) := by
         rw [hb11.cell (p := ⟨w.heap.size + 1, 2, none⟩) (show w.heap.size + 1 < _ by (try simp) <;> (try omega))]
         first | assumption | (simp [go_sem, *])
       have hl11_1 : w.heap.size + 1 < w11.heap.size := by omega
       have q11_2_0 : w11.cell? ⟨w6.heap.size, 0, none⟩ = some (.int .i64 t) := by
         rw [hb11.cell (p := ⟨w6.heap.size, 0, none⟩) (show w6.heap.size < _ by (try simp) <;> (try omega))]
         first | assumption | (simp [go_sem, *])
       have q11_2_1 : w11.cell? ⟨w6.heap.size, 1, none⟩ = some (.int .i64 v) := by
         rw [hb11.cell (p := ⟨w6.heap.size, 1, none⟩) (show w6.heap.size < _ by (try simp) <;> (try omega))]
         first | assumption | (simp [go_sem, *])
       have q11_2_2 : w11.cell? ⟨w6.heap.size, 2, none⟩ = some (.slice a6 xs.length c6) := by
         rw [hb11.cell (p := ⟨w6.heap.size, 2, none⟩) (show w6.heap.size < _ by (try simp) <;> (try omega))]
         first | assumption | (simp [go_sem, *])
       have hl11_2 : w6.heap.size < w11.heap.size := by omega
       have q11_3_0 : w11.cell? ⟨w7.heap.size, 0, none⟩ = some (.int .i64 t') := by
         rw [hb11.cell (p := ⟨w7.heap.size, 0, none⟩) (show w7.heap.size < _ by (try simp) <;> (try omega))]
         first | assumption | (simp [go_sem, *])
       have q11_3_1 : w11.cell? ⟨w7.heap.size, 1, none⟩ = some (.int .i64 v') := by
         rw [hb11.cell (p := ⟨w7.heap.size, 1, none⟩) (show w7.heap.size < _ by (try simp) <;> (try omega))]
         first | assumption | (simp [go_sem, *])
       have q11_3_2 : w11.cell? ⟨w7.heap.size, 2, none⟩ = some (.slice a7 ys.length c7) := by
         rw [hb11.cell (p := ⟨w7.heap.size, 2, none⟩) (show w7.heap.size < _ by (try simp) <;> (try omega))]
         first | assumption | (simp [go_sem, *])
       have hl11_3 : w7.heap.size < w11.heap.size := by omega)
    | (go_at_call 13
       refine (toState_c a ca xs t v _ (ha.keep (HB9.out.drew)) lx).mono ?_
       rintro e w10 ⟨a10, c10, rfl, hf10, hb10⟩
       have hz10 := hb10.size
       try simp at hz10
       have q10_0_0 : w10.cell? ⟨w.heap.size, 0, none⟩ = some (.int .i64 t) := by
         rw [hb10.cell (p := ⟨w.heap.size, 0, none⟩) (show w.heap.size < _ by (try simp) <;> (try omega))]
         first | assumption | (simp [go_sem, *])
       have q10_0_1 : w10.cell? ⟨w.heap.size, 1, none⟩ = some (.int .i64 v) := by
         rw [hb10.cell (p := ⟨w.heap.size, 1, none⟩) (show w.heap.size < _ by (try simp) <;> (try omega))]
         first | assumption | (simp [go_sem, *])
       have q10_0_2 : w10.cell? ⟨w.heap.size, 2, none⟩ = some (.slice a xs.length ca) := by
         rw [hb10.cell (p := ⟨w.heap.size, 2, none⟩) (show w.heap.size < _ by (try simp) <;> (try omega))]
         first | assumption | (simp [go_sem, *])
       have hl10_0 : w.heap.size < w10.heap.size := by omega
       have q10_1_0 : w10.cell? ⟨w.heap.size + 1, 0, none⟩ = some (.int .i64 t') := by
         rw [hb10.cell (p := ⟨w.heap.size + 1, 0, none⟩) (show w.heap.size + 1 < _ by (try simp) <;> (try omega))]
         first | assumption | (simp [go_sem, *])
       have q10_1_1 : w10.cell? ⟨w.heap.size + 1, 1, none⟩ = some (.int .i64 v') := by
         rw [hb10.cell (p := ⟨w.heap.size + 1, 1, none⟩) (show w.heap.size + 1 < _ by (try simp) <;> (try omega))]
         first | assumption | (simp [go_sem, *])
       have q10_1_2 : w10.cell? ⟨w.heap.size + 1, 2, none⟩ = some (.slice b ys.length cb) := by
         rw [hb10.cell (p := ⟨w.heap.size + 1, 2, none⟩) (show w.heap.size + 1 < _ by (try simp) <;> (try omega))]
         first | assumption | (simp [go_sem, *])
       have hl10_1 : w.heap.size + 1 < w10.heap.size := by omega
       have q10_2_0 : w10.cell? ⟨w6.heap.size, 0, none⟩ = some (.int .i64 t) := by
         rw [hb10.cell (p := ⟨w6.heap.size, 0, none⟩) (show w6.heap.size < _ by (try simp) <;> (try omega))]
         first | assumption | (simp [go_sem, *])
       have q10_2_1 : w10.cell? ⟨w6.heap.size, 1, none⟩ = some (.int .i64 v) := by
         rw [hb10.cell (p := ⟨w6.heap.size, 1, none⟩) (show w6.heap.size < _ by (try simp) <;> (try omega))]
         first | assumption | (simp [go_sem, *])
       have q10_2_2 : w10.cell? ⟨w6.heap.size, 2, none⟩ = some (.slice a6 xs.length c6) := by
         rw [hb10.cell (p := ⟨w6.heap.size, 2, none⟩) (show w6.heap.size < _ by (try simp) <;> (try omega))]
         first | assumption | (simp [go_sem, *])
       have hl10_2 : w6.heap.size < w10.heap.size := by omega
       have q10_3_0 : w10.cell? ⟨w7.heap.size, 0, none⟩ = some (.int .i64 t') := by
         rw [hb10.cell (p := ⟨w7.heap.size, 0, none⟩) (show w7.heap.size < _ by (try simp) <;> (try omega))]
         first | assumption | (simp [go_sem, *])
       have q10_3_1 : w10.cell? ⟨w7.heap.size, 1, none⟩ = some (.int .i64 v') := by
         rw [hb10.cell (p := ⟨w7.heap.size, 1, none⟩) (show w7.heap.size < _ by (try simp) <;> (try omega))]
         first | assumption | (simp [go_sem, *])
       have q10_3_2 : w10.cell? ⟨w7.heap.size, 2, none⟩ = some (.slice a7 ys.length c7) := by
         rw [hb10.cell (p := ⟨w7.heap.size, 2, none⟩) (show w7.heap.size < _ by (try simp) <;> (try omega))]
         first | assumption | (simp [go_sem, *])
       have hl10_3 : w7.heap.size < w10.heap.size := by omega))
  have hr11 : Below w9.heap.size w9 w11 := ((((Below.refl _ _).drew).trans (hb10.mono (by (try simp) <;> (try omega)))).trans (hb11.mono (by (try simp) <;> (try omega))))
  have hzr11 := hr11.size
  have HG511 := Lib.hid (HG59.out.below hr11)
  clear HG59
  have HX611 := Lib.hid (HX69.out.below hr11)
  clear HX69
  have HX711 := Lib.hid (HX79.out.below hr11)
  clear HX79
  have HG811 := Lib.hid (HG89.out.below hr11)
  clear HG89
  have HB11 : Hid (Below w.heap.size w w11) := HB9.out.trans (hr11.mono (by omega))
  clear q9_0_0 q9_0_1 q9_0_2 q10_0_0 q10_0_1 q10_0_2 q9_1_0 q9_1_1 q9_1_2 q10_1_0 q10_1_1 q10_1_2 q9_2_0 q9_2_1 q9_2_2 q10_2_0 q10_2_1 q10_2_2 q9_3_0 q9_3_1 q9_3_2 q10_3_0 q10_3_1 q10_3_2 hb10 hb11 hr11
  clear hf10
  go_wp2_with fail
  go_region_held3 (fun w' => w'.cell? ⟨w.heap.size, 0, none⟩ = some (.int .i64 t) ∧ w'.cell? ⟨w.heap.size, 1, none⟩ = some (.int .i64 v) ∧ w'.cell? ⟨w.heap.size, 2, none⟩ = some (.slice a xs.length ca) ∧ w'.cell? ⟨w.heap.size + 1, 0, none⟩ = some (.int .i64 t') ∧ w'.cell? ⟨w.heap.size + 1, 1, none⟩ = some (.int .i64 v') ∧ w'.cell? ⟨w.heap.size + 1, 2, none⟩ = some (.slice b ys.length cb) ∧ w'.cell? ⟨w6.heap.size, 0, none⟩ = some (.int .i64 t) ∧ w'.cell? ⟨w6.heap.size, 1, none⟩ = some (.int .i64 v) ∧ w'.cell? ⟨w6.heap.size, 2, none⟩ = some (.slice a6 xs.length c6) ∧ w'.cell? ⟨w7.heap.size, 0, none⟩ = some (.int .i64 t') ∧ w'.cell? ⟨w7.heap.size, 1, none⟩ = some (.int .i64 v') ∧ w'.cell? ⟨w7.heap.size, 2, none⟩ = some (.slice a7 ys.length c7))
    (first | go_keep | (repeat' apply And.intro) <;> assumption)
    (first
    | (have tok13 := hb12
       clear tok13
       go_at_call 16
       refine (eqState_same a7 a12 c7 c12 ys t' v' _ ((HX711.out.drew.below hb12).sl fun _ => rfl) (hf12.here.sl fun _ => rfl) ly).mono ?_
       rintro e w13 ⟨rfl, hb13⟩
       have hz13 := hb13.size
       try simp at hz13
       have q13_0_0 : w13.cell? ⟨w.heap.size, 0, none⟩ = some (.int .i64 t) := by
         rw [hb13.cell (p := ⟨w.heap.size, 0, none⟩) (show w.heap.size < _ by (try simp) <;> (try omega))]
         first | assumption | (simp [go_sem, *])
       have q13_0_1 : w13.cell? ⟨w.heap.size, 1, none⟩ = some (.int .i64 v) := by
         rw [hb13.cell (p := ⟨w.heap.size, 1, none⟩) (show w.heap.size < _ by (try simp) <;> (try omega))]
         first | assumption | (simp [go_sem, *])
       have q13_0_2 : w13.cell? ⟨w.heap.size, 2, none⟩ = some (.slice a xs.length ca) := by
         rw [hb13.cell (p := ⟨w.heap.size, 2, none⟩) (show w.heap.size < _ by (try simp) <;> (try omega))]
         first | assumption | (simp [go_sem, *])
       have hl13_0 : w.heap.size < w13.heap.size := by omega
       have q13_1_0 : w13.cell? ⟨w.heap.size + 1, 0, none⟩ = some (.int .i64 t') := by
         rw [hb13.cell (p := ⟨w.heap.size + 1, 0, none⟩) (show w.heap.size + 1 < _ by (try simp) <;> (try omega))]
         first | assumption | (simp [go_sem, *])
       have q13_1_1 : w13.cell? ⟨w.heap.size + 1, 1, none⟩ = some (.int .i64 v') := by
         rw [hb13.cell (p := ⟨w.heap.size + 1, 1, none⟩) (show w.heap.size + 1 < _ by (try simp) <;> (try omega))]
         first | assumption | (simp [go_sem, *])
       have q13_1_2 : w13.cell? ⟨w.heap.size + 1, 2, none⟩ = some (.slice b ys.length cb) := by
         rw [hb13.cell (p := ⟨w.heap.size + 1, 2, none⟩) (show w.heap.size + 1 < _ by (try simp) <;> (try omega))]
         first | assumption | (simp [go_sem, *])
       have hl13_1 : w.heap.size + 1 < w13.heap.size := by omega
       have q13_2_0 : w13.cell? ⟨w6.heap.size, 0, none⟩ = some (.int .i64 t) := by
         rw [hb13.cell (p := ⟨w6.heap.size, 0, none⟩) (show w6.heap.size < _ by (try simp) <;> (try omega))]
         first | assumption | (simp [go_sem, *])
       have q13_2_1 : w13.cell? ⟨w6.heap.size, 1, none⟩ = some (.int .i64 v) := by
         rw [hb13.cell (p := ⟨w6.heap.size, 1, none⟩) (show w6.heap.size < _ by (try simp) <;> (try omega))]
         first | assumption | (simp [go_sem, *])
       have q13_2_2 : w13.cell? ⟨w6.heap.size, 2, none⟩ = some (.slice a6 xs.length c6) := by
         rw [hb13.cell (p := ⟨w6.heap.size, 2, none⟩) (show w6.heap.size < _ by (try simp) <;> (try omega))]
         first | assumption | (simp [go_sem, *])
       have hl13_2 : w6.heap.size < w13.heap.size := by omega
       have q13_3_0 : w13.cell? ⟨w7.heap.size, 0, none⟩ = some (.int .i64 t') := by
         rw [hb13.cell (p := ⟨w7.heap.size, 0, none⟩) (show w7.heap.size < _ by (try simp) <;> (try omega))]
         first | assumption | (simp [go_sem, *])
       have q13_3_1 : w13.cell? ⟨w7.heap.size, 1, none⟩ = some (.int .i64 v') := by
         rw [hb13.cell (p := ⟨w7.heap.size, 1, none⟩) (show w7.heap.size < _ by (try simp) <;> (try omega))]
         first | assumption | (simp [go_sem, *])
       have q13_3_2 : w13.cell? ⟨w7.heap.size, 2, none⟩ = some (.slice a7 ys.length c7) := by
         rw [hb13.cell (p := ⟨w7.heap.size, 2, none⟩) (show w7.heap.size < _ by (try simp) <;> (try omega))]
         first | assumption | (simp [go_sem, *])
       have hl13_3 : w7.heap.size < w13.heap.size := by omega)
    | (go_at_call 13
       refine (toState_c b cb ys t' v' _ (hb.keep (HB11.out.drew)) ly).mono ?_
       rintro e w12 ⟨a12, c12, rfl, hf12, hb12⟩
       have hz12 := hb12.size
       try simp at hz12
       have q12_0_0 : w12.cell? ⟨w.heap.size, 0, none⟩ = some (.int .i64 t) := by
         rw [hb12.cell (p := ⟨w.heap.size, 0, none⟩) (show w.heap.size < _ by (try simp) <;> (try omega))]
         first | assumption | (simp [go_sem, *])
       have q12_0_1 : w12.cell? ⟨w.heap.size, 1, none⟩ = some (.int .i64 v) := by
         rw [hb12.cell (p := ⟨w.heap.size, 1, none⟩) (show w.heap.size < _ by (try simp) <;> (try omega))]
         first | assumption | (simp [go_sem, *])
       have q12_0_2 : w12.cell? ⟨w.heap.size, 2, none⟩ = some (.slice a xs.length ca) := by
         rw [hb12.cell (p := ⟨w.heap.size, 2, none⟩) (show w.heap.size < _ by (try simp) <;> (try omega))]
         first | assumption | (simp [go_sem, *])
       have hl12_0 : w.heap.size < w12.heap.size := by omega
       have q12_1_0 : w12.cell? ⟨w.heap.size + 1, 0, none⟩ = some (.int .i64 t') := by
         rw [hb12.cell (p := ⟨w.heap.size + 1, 0, none⟩) (show w.heap.size + 1 < _ by (try simp) <;> (try omega))]
         first | assumption | (simp [go_sem, *])
       have q12_1_1 : w12.cell? ⟨w.heap.size + 1, 1, none⟩ = some (.int .i64 v') := by
         rw [hb12.cell (p := ⟨w.heap.size + 1, 1, none⟩) (show w.heap.size + 1 < _ by (try simp) <;> (try omega))]
         first | assumption | (simp [go_sem, *])
       have q12_1_2 : w12.cell? ⟨w.heap.size + 1, 2, none⟩ = some (.slice b ys.length cb) := by
         rw [hb12.cell (p := ⟨w.heap.size + 1, 2, none⟩) (show w.heap.size + 1 < _ by (try simp) <;> (try omega))]
         first | assumption | (simp [go_sem, *])
       have hl12_1 : w.heap.size + 1 < w12.heap.size := by omega
       have q12_2_0 : w12.cell? ⟨w6.heap.size, 0, none⟩ = some (.int .i64 t) := by
         rw [hb12.cell (p := ⟨w6.heap.size, 0, none⟩) (show w6.heap.size < _ by (try simp) <;> (try omega))]
         first | assumption | (simp [go_sem, *])
       have q12_2_1 : w12.cell? ⟨w6.heap.size, 1, none⟩ = some (.int .i64 v) := by
         rw [hb12.cell (p := ⟨w6.heap.size, 1, none⟩) (show w6.heap.size < _ by (try simp) <;> (try omega))]
         first | assumption | (simp [go_sem, *])
       have q12_2_2 : w12.cell? ⟨w6.heap.size, 2, none⟩ = some (.slice a6 xs.length c6) := by
         rw [hb12.cell (p := ⟨w6.heap.size, 2, none⟩) (show w6.heap.size < _ by (try simp) <;> (try omega))]
         first | assumption | (simp [go_sem, *])
       have hl12_2 : w6.heap.size < w12.heap.size := by omega
       have q12_3_0 : w12.cell? ⟨w7.heap.size, 0, none⟩ = some (.int .i64 t') := by
         rw [hb12.cell (p := ⟨w7.heap.size, 0, none⟩) (show w7.heap.size < _ by (try simp) <;> (try omega))]
         first | assumption | (simp [go_sem, *])
       have q12_3_1 : w12.cell? ⟨w7.heap.size, 1, none⟩ = some (.int .i64 v') := by
         rw [hb12.cell (p := ⟨w7.heap.size, 1, none⟩) (show w7.heap.size < _ by (try simp) <;> (try omega))]
         first | assumption | (simp [go_sem, *])
       have q12_3_2 : w12.cell? ⟨w7.heap.size, 2, none⟩ = some (.slice a7 ys.length c7) := by
         rw [hb12.cell (p := ⟨w7.heap.size, 2, none⟩) (show w7.heap.size < _ by (try simp) <;> (try omega))]
         first | assumption | (simp [go_sem, *])
       have hl12_3 : w7.heap.size < w12.heap.size := by omega))
  have hr13 : Below w11.heap.size w11 w13 := ((((Below.refl _ _).drew).trans (hb12.mono (by (try simp) <;> (try omega)))).trans (hb13.mono (by (try simp) <;> (try omega))))
  have hzr13 := hr13.size
  have HG513 := Lib.hid (HG511.out.below hr13)
  clear HG511
  have HX613 := Lib.hid (HX611.out.below hr13)
  clear HX611
  have HX713 := Lib.hid (HX711.out.below hr13)
  clear HX711
  have HG813 := Lib.hid (HG811.out.below hr13)
  clear HG811
  have HB13 : Hid (Below w.heap.size w w13) := HB11.out.trans (hr13.mono (by omega))
  clear q11_0_0 q11_0_1 q11_0_2 q12_0_0 q12_0_1 q12_0_2 q11_1_0 q11_1_1 q11_1_2 q12_1_0 q12_1_1 q12_1_2 q11_2_0 q11_2_1 q11_2_2 q12_2_0 q12_2_1 q12_2_2 q11_3_0 q11_3_1 q11_3_2 q12_3_0 q12_3_1 q12_3_2 hb12 hb13 hr13
  clear hf12
  go_wp2_with fail
  refine (markState_c a6 c6 xs t v 1 (w5.heap.size) (w6.heap.size) _ HX613.out (by omega) (by omega) (by omega)).mono ?_
  rintro e w14 ⟨rfl, _, hb14⟩
  have hz14 := hb14.size
  have hq1 : 1 + 2 * xs.length ≤ 4194304 := by omega
  generalize hQ1 : 1 + 2 * xs.length = Q1 at hq1 ⊢
  clear hQ1
  have HG514 := Lib.hid (HG513.out.mid hb14 (by omega))
  clear HG513
  have HX714 := Lib.hid (HX713.out.mid hb14 (by omega))
  clear HX713
  have HG814 := Lib.hid (HG813.out.mid hb14 (by omega))
  clear HG813
  have q14_0_0 : w14.cell? ⟨w.heap.size, 0, none⟩ = some (.int .i64 t) := by
    rw [hb14.cell (p := ⟨w.heap.size, 0, none⟩) (show w.heap.size < _ by (try simp) <;> (try omega)) (by show w.heap.size < _ ∨ _ ≤ w.heap.size; omega)]
    exact q13_0_0
  have q14_0_1 : w14.cell? ⟨w.heap.size, 1, none⟩ = some (.int .i64 v) := by
    rw [hb14.cell (p := ⟨w.heap.size, 1, none⟩) (show w.heap.size < _ by (try simp) <;> (try omega)) (by show w.heap.size < _ ∨ _ ≤ w.heap.size; omega)]
    exact q13_0_1
  have q14_0_2 : w14.cell? ⟨w.heap.size, 2, none⟩ = some (.slice a xs.length ca) := by
    rw [hb14.cell (p := ⟨w.heap.size, 2, none⟩) (show w.heap.size < _ by (try simp) <;> (try omega)) (by show w.heap.size < _ ∨ _ ≤ w.heap.size; omega)]
    exact q13_0_2
  have hl14_0 : w.heap.size < w14.heap.size := by omega
  clear q13_0_0 q13_0_1 q13_0_2
  have q14_1_0 : w14.cell? ⟨w.heap.size + 1, 0, none⟩ = some (.int .i64 t') := by
    rw [hb14.cell (p := ⟨w.heap.size + 1, 0, none⟩) (show w.heap.size + 1 < _ by (try simp) <;> (try omega)) (by show w.heap.size + 1 < _ ∨ _ ≤ w.heap.size + 1; omega)]
    exact q13_1_0
  have q14_1_1 : w14.cell? ⟨w.heap.size + 1, 1, none⟩ = some (.int .i64 v') := by
    rw [hb14.cell (p := ⟨w.heap.size + 1, 1, none⟩) (show w.heap.size + 1 < _ by (try simp) <;> (try omega)) (by show w.heap.size + 1 < _ ∨ _ ≤ w.heap.size + 1; omega)]
    exact q13_1_1
  have q14_1_2 : w14.cell? ⟨w.heap.size + 1, 2, none⟩ = some (.slice b ys.length cb) := by
    rw [hb14.cell (p := ⟨w.heap.size + 1, 2, none⟩) (show w.heap.size + 1 < _ by (try simp) <;> (try omega)) (by show w.heap.size + 1 < _ ∨ _ ≤ w.heap.size + 1; omega)]
    exact q13_1_2
  have hl14_1 : w.heap.size + 1 < w14.heap.size := by omega
  clear q13_1_0 q13_1_1 q13_1_2
  have q14_2_0 : w14.cell? ⟨w6.heap.size, 0, none⟩ = some (.int .i64 t) := by
    rw [hb14.cell (p := ⟨w6.heap.size, 0, none⟩) (show w6.heap.size < _ by (try simp) <;> (try omega)) (by show w6.heap.size < _ ∨ _ ≤ w6.heap.size; omega)]
    exact q13_2_0
  have q14_2_1 : w14.cell? ⟨w6.heap.size, 1, none⟩ = some (.int .i64 v) := by
    rw [hb14.cell (p := ⟨w6.heap.size, 1, none⟩) (show w6.heap.size < _ by (try simp) <;> (try omega)) (by show w6.heap.size < _ ∨ _ ≤ w6.heap.size; omega)]
    exact q13_2_1
  have q14_2_2 : w14.cell? ⟨w6.heap.size, 2, none⟩ = some (.slice a6 xs.length c6) := by
    rw [hb14.cell (p := ⟨w6.heap.size, 2, none⟩) (show w6.heap.size < _ by (try simp) <;> (try omega)) (by show w6.heap.size < _ ∨ _ ≤ w6.heap.size; omega)]
    exact q13_2_2
  have hl14_2 : w6.heap.size < w14.heap.size := by omega
  clear q13_2_0 q13_2_1 q13_2_2
  have q14_3_0 : w14.cell? ⟨w7.heap.size, 0, none⟩ = some (.int .i64 t') := by
    rw [hb14.cell (p := ⟨w7.heap.size, 0, none⟩) (show w7.heap.size < _ by (try simp) <;> (try omega)) (by show w7.heap.size < _ ∨ _ ≤ w7.heap.size; omega)]
    exact q13_3_0
  have q14_3_1 : w14.cell? ⟨w7.heap.size, 1, none⟩ = some (.int .i64 v') := by
    rw [hb14.cell (p := ⟨w7.heap.size, 1, none⟩) (show w7.heap.size < _ by (try simp) <;> (try omega)) (by show w7.heap.size < _ ∨ _ ≤ w7.heap.size; omega)]
    exact q13_3_1
  have q14_3_2 : w14.cell? ⟨w7.heap.size, 2, none⟩ = some (.slice a7 ys.length c7) := by
    rw [hb14.cell (p := ⟨w7.heap.size, 2, none⟩) (show w7.heap.size < _ by (try simp) <;> (try omega)) (by show w7.heap.size < _ ∨ _ ≤ w7.heap.size; omega)]
    exact q13_3_2
  have hl14_3 : w7.heap.size < w14.heap.size := by omega
  clear q13_3_0 q13_3_1 q13_3_2
  have HB14 : Hid (Below w.heap.size w w14) := HB13.out.trans (hb14.below (by omega) (by (try simp) <;> (try omega)))
  clear hb14
  clear HX613
  go_wp2_with fail
  refine (markState_c a7 c7 ys t' v' Q1 (w6.heap.size + 1) (w7.heap.size) _ HX714.out (by omega) (by omega) (by omega)).mono ?_
  rintro e w15 ⟨rfl, _, hb15⟩
  have hz15 := hb15.size
  have hq2 : Q1 + 2 * ys.length ≤ 8388608 := by omega
  generalize hQ2 : Q1 + 2 * ys.length = Q2 at hq2 ⊢
  clear hQ2
  have HG515 := Lib.hid (HG514.out.mid hb15 (by omega))
  clear HG514
  have HG815 := Lib.hid (HG814.out.mid hb15 (by omega))
  clear HG814
  have q15_0_0 : w15.cell? ⟨w.heap.size, 0, none⟩ = some (.int .i64 t) := by
    rw [hb15.cell (p := ⟨w.heap.size, 0, none⟩) (show w.heap.size < _ by (try simp) <;> (try omega)) (by show w.heap.size < _ ∨ _ ≤ w.heap.size; omega)]
    exact q14_0_0
  have q15_0_1 : w15.cell? ⟨w.heap.size, 1, none⟩ = some (.int .i64 v) := by
    rw [hb15.cell (p := ⟨w.heap.size, 1, none⟩) (show w.heap.size < _ by (try simp) <;> (try omega)) (by show w.heap.size < _ ∨ _ ≤ w.heap.size; omega)]
    exact q14_0_1
  have q15_0_2 : w15.cell? ⟨w.heap.size, 2, none⟩ = some (.slice a xs.length ca) := by
    rw [hb15.cell (p := ⟨w.heap.size, 2, none⟩) (show w.heap.size < _ by (try simp) <;> (try omega)) (by show w.heap.size < _ ∨ _ ≤ w.heap.size; omega)]
    exact q14_0_2
  have hl15_0 : w.heap.size < w15.heap.size := by omega
  clear q14_0_0 q14_0_1 q14_0_2
  have q15_1_0 : w15.cell? ⟨w.heap.size + 1, 0, none⟩ = some (.int .i64 t') := by
    rw [hb15.cell (p := ⟨w.heap.size + 1, 0, none⟩) (show w.heap.size + 1 < _ by (try simp) <;> (try omega)) (by show w.heap.size + 1 < _ ∨ _ ≤ w.heap.size + 1; omega)]
    exact q14_1_0
  have q15_1_1 : w15.cell? ⟨w.heap.size + 1, 1, none⟩ = some (.int .i64 v') := by
    rw [hb15.cell (p := ⟨w.heap.size + 1, 1, none⟩) (show w.heap.size + 1 < _ by (try simp) <;> (try omega)) (by show w.heap.size + 1 < _ ∨ _ ≤ w.heap.size + 1; omega)]
    exact q14_1_1
  have q15_1_2 : w15.cell? ⟨w.heap.size + 1, 2, none⟩ = some (.slice b ys.length cb) := by
    rw [hb15.cell (p := ⟨w.heap.size + 1, 2, none⟩) (show w.heap.size + 1 < _ by (try simp) <;> (try omega)) (by show w.heap.size + 1 < _ ∨ _ ≤ w.heap.size + 1; omega)]
    exact q14_1_2
  have hl15_1 : w.heap.size + 1 < w15.heap.size := by omega
  clear q14_1_0 q14_1_1 q14_1_2
  have q15_2_0 : w15.cell? ⟨w6.heap.size, 0, none⟩ = some (.int .i64 t) := by
    rw [hb15.cell (p := ⟨w6.heap.size, 0, none⟩) (show w6.heap.size < _ by (try simp) <;> (try omega)) (by show w6.heap.size < _ ∨ _ ≤ w6.heap.size; omega)]
    exact q14_2_0
  have q15_2_1 : w15.cell? ⟨w6.heap.size, 1, none⟩ = some (.int .i64 v) := by
    rw [hb15.cell (p := ⟨w6.heap.size, 1, none⟩) (show w6.heap.size < _ by (try simp) <;> (try omega)) (by show w6.heap.size < _ ∨ _ ≤ w6.heap.size; omega)]
    exact q14_2_1
  have q15_2_2 : w15.cell? ⟨w6.heap.size, 2, none⟩ = some (.slice a6 xs.length c6) := by
    rw [hb15.cell (p := ⟨w6.heap.size, 2, none⟩) (show w6.heap.size < _ by (try simp) <;> (try omega)) (by show w6.heap.size < _ ∨ _ ≤ w6.heap.size; omega)]
    exact q14_2_2
  have hl15_2 : w6.heap.size < w15.heap.size := by omega
  clear q14_2_0 q14_2_1 q14_2_2
  have q15_3_0 : w15.cell? ⟨w7.heap.size, 0, none⟩ = some (.int .i64 t') := by
    rw [hb15.cell (p := ⟨w7.heap.size, 0, none⟩) (show w7.heap.size < _ by (try simp) <;> (try omega)) (by show w7.heap.size < _ ∨ _ ≤ w7.heap.size; omega)]
    exact q14_3_0
  have q15_3_1 : w15.cell? ⟨w7.heap.size, 1, none⟩ = some (.int .i64 v') := by
    rw [hb15.cell (p := ⟨w7.heap.size, 1, none⟩) (show w7.heap.size < _ by (try simp) <;> (try omega)) (by show w7.heap.size < _ ∨ _ ≤ w7.heap.size; omega)]
    exact q14_3_1
  have q15_3_2 : w15.cell? ⟨w7.heap.size, 2, none⟩ = some (.slice a7 ys.length c7) := by
    rw [hb15.cell (p := ⟨w7.heap.size, 2, none⟩) (show w7.heap.size < _ by (try simp) <;> (try omega)) (by show w7.heap.size < _ ∨ _ ≤ w7.heap.size; omega)]
    exact q14_3_2
  have hl15_3 : w7.heap.size < w15.heap.size := by omega
  clear q14_3_0 q14_3_1 q14_3_2
  have HB15 : Hid (Below w.heap.size w w15) := HB14.out.trans (hb15.below (by omega) (by (try simp) <;> (try omega)))
  clear hb15
  clear HX714
  go_wp2_with fail
  refine (eqStringS_c a8 a5 c8 c5 R R _ (HG815.out.sl fun _ => rfl) (HG515.out.sl fun _ => rfl) (by omega) (by omega)).mono ?_
  simp only [decide_true]
  rintro e w16 ⟨rfl, hb16⟩
  have hz16 := hb16.size
  have HG516 := Lib.hid (HG515.out.below hb16)
  clear HG515
  have HG816 := Lib.hid (HG815.out.below hb16)
  clear HG815
  have q16_0_0 : w16.cell? ⟨w.heap.size, 0, none⟩ = some (.int .i64 t) := by
    rw [hb16.cell (p := ⟨w.heap.size, 0, none⟩) (show w.heap.size < _ by (try simp) <;> (try omega))]
    exact q15_0_0
  have q16_0_1 : w16.cell? ⟨w.heap.size, 1, none⟩ = some (.int .i64 v) := by
    rw [hb16.cell (p := ⟨w.heap.size, 1, none⟩) (show w.heap.size < _ by (try simp) <;> (try omega))]
    exact q15_0_1
  have q16_0_2 : w16.cell? ⟨w.heap.size, 2, none⟩ = some (.slice a xs.length ca) := by
    rw [hb16.cell (p := ⟨w.heap.size, 2, none⟩) (show w.heap.size < _ by (try simp) <;> (try omega))]
    exact q15_0_2
  have hl16_0 : w.heap.size < w16.heap.size := by omega
  clear q15_0_0 q15_0_1 q15_0_2
  have q16_1_0 : w16.cell? ⟨w.heap.size + 1, 0, none⟩ = some (.int .i64 t') := by
    rw [hb16.cell (p := ⟨w.heap.size + 1, 0, none⟩) (show w.heap.size + 1 < _ by (try simp) <;> (try omega))]
    exact q15_1_0
  have q16_1_1 : w16.cell? ⟨w.heap.size + 1, 1, none⟩ = some (.int .i64 v') := by
    rw [hb16.cell (p := ⟨w.heap.size + 1, 1, none⟩) (show w.heap.size + 1 < _ by (try simp) <;> (try omega))]
    exact q15_1_1
  have q16_1_2 : w16.cell? ⟨w.heap.size + 1, 2, none⟩ = some (.slice b ys.length cb) := by
    rw [hb16.cell (p := ⟨w.heap.size + 1, 2, none⟩) (show w.heap.size + 1 < _ by (try simp) <;> (try omega))]
    exact q15_1_2
  have hl16_1 : w.heap.size + 1 < w16.heap.size := by omega
  clear q15_1_0 q15_1_1 q15_1_2
  have q16_2_0 : w16.cell? ⟨w6.heap.size, 0, none⟩ = some (.int .i64 t) := by
    rw [hb16.cell (p := ⟨w6.heap.size, 0, none⟩) (show w6.heap.size < _ by (try simp) <;> (try omega))]
    exact q15_2_0
  have q16_2_1 : w16.cell? ⟨w6.heap.size, 1, none⟩ = some (.int .i64 v) := by
    rw [hb16.cell (p := ⟨w6.heap.size, 1, none⟩) (show w6.heap.size < _ by (try simp) <;> (try omega))]
    exact q15_2_1
  have q16_2_2 : w16.cell? ⟨w6.heap.size, 2, none⟩ = some (.slice a6 xs.length c6) := by
    rw [hb16.cell (p := ⟨w6.heap.size, 2, none⟩) (show w6.heap.size < _ by (try simp) <;> (try omega))]
    exact q15_2_2
  have hl16_2 : w6.heap.size < w16.heap.size := by omega
  clear q15_2_0 q15_2_1 q15_2_2
  have q16_3_0 : w16.cell? ⟨w7.heap.size, 0, none⟩ = some (.int .i64 t') := by
    rw [hb16.cell (p := ⟨w7.heap.size, 0, none⟩) (show w7.heap.size < _ by (try simp) <;> (try omega))]
    exact q15_3_0
  have q16_3_1 : w16.cell? ⟨w7.heap.size, 1, none⟩ = some (.int .i64 v') := by
    rw [hb16.cell (p := ⟨w7.heap.size, 1, none⟩) (show w7.heap.size < _ by (try simp) <;> (try omega))]
    exact q15_3_1
  have q16_3_2 : w16.cell? ⟨w7.heap.size, 2, none⟩ = some (.slice a7 ys.length c7) := by
    rw [hb16.cell (p := ⟨w7.heap.size, 2, none⟩) (show w7.heap.size < _ by (try simp) <;> (try omega))]
    exact q15_3_2
  have hl16_3 : w7.heap.size < w16.heap.size := by omega
  clear q15_3_0 q15_3_1 q15_3_2
  have HB16 : Hid (Below w.heap.size w w16) := HB15.out.trans (hb16.mono (by (try simp) <;> (try omega)))
  clear hb16
  go_wp2_with fail
  refine (markStringS_c a8 c8 R 1 (w7.heap.size + 1) (w8.heap.size) _ HG816.out (by omega) (by omega)).mono ?_
  rintro e w17 ⟨rfl, hf17, hb17⟩
  have hz17 := hb17.size
  have HM17 := Lib.hid hf17
  clear hf17
  have HG517 := Lib.hid (HG516.out.mid hb17 (by omega))
  clear HG516
  have q17_0_0 : w17.cell? ⟨w.heap.size, 0, none⟩ = some (.int .i64 t) := by
    rw [hb17.cell (p := ⟨w.heap.size, 0, none⟩) (show w.heap.size < _ by (try simp) <;> (try omega)) (by show w.heap.size < _ ∨ _ ≤ w.heap.size; omega)]
    exact q16_0_0
  have q17_0_1 : w17.cell? ⟨w.heap.size, 1, none⟩ = some (.int .i64 v) := by
    rw [hb17.cell (p := ⟨w.heap.size, 1, none⟩) (show w.heap.size < _ by (try simp) <;> (try omega)) (by show w.heap.size < _ ∨ _ ≤ w.heap.size; omega)]
    exact q16_0_1
  have q17_0_2 : w17.cell? ⟨w.heap.size, 2, none⟩ = some (.slice a xs.length ca) := by
    rw [hb17.cell (p := ⟨w.heap.size, 2, none⟩) (show w.heap.size < _ by (try simp) <;> (try omega)) (by show w.heap.size < _ ∨ _ ≤ w.heap.size; omega)]
    exact q16_0_2
  have hl17_0 : w.heap.size < w17.heap.size := by omega
  clear q16_0_0 q16_0_1 q16_0_2
  have q17_1_0 : w17.cell? ⟨w.heap.size + 1, 0, none⟩ = some (.int .i64 t') := by
    rw [hb17.cell (p := ⟨w.heap.size + 1, 0, none⟩) (show w.heap.size + 1 < _ by (try simp) <;> (try omega)) (by show w.heap.size + 1 < _ ∨ _ ≤ w.heap.size + 1; omega)]
    exact q16_1_0
  have q17_1_1 : w17.cell? ⟨w.heap.size + 1, 1, none⟩ = some (.int .i64 v') := by
    rw [hb17.cell (p := ⟨w.heap.size + 1, 1, none⟩) (show w.heap.size + 1 < _ by (try simp) <;> (try omega)) (by show w.heap.size + 1 < _ ∨ _ ≤ w.heap.size + 1; omega)]
    exact q16_1_1
  have q17_1_2 : w17.cell? ⟨w.heap.size + 1, 2, none⟩ = some (.slice b ys.length cb) := by
    rw [hb17.cell (p := ⟨w.heap.size + 1, 2, none⟩) (show w.heap.size + 1 < _ by (try simp) <;> (try omega)) (by show w.heap.size + 1 < _ ∨ _ ≤ w.heap.size + 1; omega)]
    exact q16_1_2
  have hl17_1 : w.heap.size + 1 < w17.heap.size := by omega
  clear q16_1_0 q16_1_1 q16_1_2
  have q17_2_0 : w17.cell? ⟨w6.heap.size, 0, none⟩ = some (.int .i64 t) := by
    rw [hb17.cell (p := ⟨w6.heap.size, 0, none⟩) (show w6.heap.size < _ by (try simp) <;> (try omega)) (by show w6.heap.size < _ ∨ _ ≤ w6.heap.size; omega)]
    exact q16_2_0
  have q17_2_1 : w17.cell? ⟨w6.heap.size, 1, none⟩ = some (.int .i64 v) := by
    rw [hb17.cell (p := ⟨w6.heap.size, 1, none⟩) (show w6.heap.size < _ by (try simp) <;> (try omega)) (by show w6.heap.size < _ ∨ _ ≤ w6.heap.size; omega)]
    exact q16_2_1
  have q17_2_2 : w17.cell? ⟨w6.heap.size, 2, none⟩ = some (.slice a6 xs.length c6) := by
    rw [hb17.cell (p := ⟨w6.heap.size, 2, none⟩) (show w6.heap.size < _ by (try simp) <;> (try omega)) (by show w6.heap.size < _ ∨ _ ≤ w6.heap.size; omega)]
    exact q16_2_2
  have hl17_2 : w6.heap.size < w17.heap.size := by omega
  clear q16_2_0 q16_2_1 q16_2_2
  have q17_3_0 : w17.cell? ⟨w7.heap.size, 0, none⟩ = some (.int .i64 t') := by
    rw [hb17.cell (p := ⟨w7.heap.size, 0, none⟩) (show w7.heap.size < _ by (try simp) <;> (try omega)) (by show w7.heap.size < _ ∨ _ ≤ w7.heap.size; omega)]
    exact q16_3_0
  have q17_3_1 : w17.cell? ⟨w7.heap.size, 1, none⟩ = some (.int .i64 v') := by
    rw [hb17.cell (p := ⟨w7.heap.size, 1, none⟩) (show w7.heap.size < _ by (try simp) <;> (try omega)) (by show w7.heap.size < _ ∨ _ ≤ w7.heap.size; omega)]
    exact q16_3_1
  have q17_3_2 : w17.cell? ⟨w7.heap.size, 2, none⟩ = some (.slice a7 ys.length c7) := by
    rw [hb17.cell (p := ⟨w7.heap.size, 2, none⟩) (show w7.heap.size < _ by (try simp) <;> (try omega)) (by show w7.heap.size < _ ∨ _ ≤ w7.heap.size; omega)]
    exact q16_3_2
  have hl17_3 : w7.heap.size < w17.heap.size := by omega
  clear q16_3_0 q16_3_1 q16_3_2
  have HB17 : Hid (Below w.heap.size w w17) := HB16.out.trans (hb17.below (by omega) (by (try simp) <;> (try omega)))
  clear hb17
  clear HG816
  go_wp2_with fail
  refine (heldStringS_c a8 c8 R.length 1 _ (HM17.out.slm2) (by omega)).mono ?_
  rintro e w18 ⟨rfl, hb18⟩
  have hz18 := hb18.size
  have HG518 := Lib.hid (HG517.out.below hb18)
  clear HG517
  have HM18 := Lib.hid (HM17.out.below hb18)
  clear HM17
  have q18_0_0 : w18.cell? ⟨w.heap.size, 0, none⟩ = some (.int .i64 t) := by
    rw [hb18.cell (p := ⟨w.heap.size, 0, none⟩) (show w.heap.size < _ by (try simp) <;> (try omega))]
    exact q17_0_0
  have q18_0_1 : w18.cell? ⟨w.heap.size, 1, none⟩ = some (.int .i64 v) := by
    rw [hb18.cell (p := ⟨w.heap.size, 1, none⟩) (show w.heap.size < _ by (try simp) <;> (try omega))]
    exact q17_0_1
  have q18_0_2 : w18.cell? ⟨w.heap.size, 2, none⟩ = some (.slice a xs.length ca) := by
    rw [hb18.cell (p := ⟨w.heap.size, 2, none⟩) (show w.heap.size < _ by (try simp) <;> (try omega))]
    exact q17_0_2
  have hl18_0 : w.heap.size < w18.heap.size := by omega
  clear q17_0_0 q17_0_1 q17_0_2
  have q18_1_0 : w18.cell? ⟨w.heap.size + 1, 0, none⟩ = some (.int .i64 t') := by
    rw [hb18.cell (p := ⟨w.heap.size + 1, 0, none⟩) (show w.heap.size + 1 < _ by (try simp) <;> (try omega))]
    exact q17_1_0
  have q18_1_1 : w18.cell? ⟨w.heap.size + 1, 1, none⟩ = some (.int .i64 v') := by
    rw [hb18.cell (p := ⟨w.heap.size + 1, 1, none⟩) (show w.heap.size + 1 < _ by (try simp) <;> (try omega))]
    exact q17_1_1
  have q18_1_2 : w18.cell? ⟨w.heap.size + 1, 2, none⟩ = some (.slice b ys.length cb) := by
    rw [hb18.cell (p := ⟨w.heap.size + 1, 2, none⟩) (show w.heap.size + 1 < _ by (try simp) <;> (try omega))]
    exact q17_1_2
  have hl18_1 : w.heap.size + 1 < w18.heap.size := by omega
  clear q17_1_0 q17_1_1 q17_1_2
  have q18_2_0 : w18.cell? ⟨w6.heap.size, 0, none⟩ = some (.int .i64 t) := by
    rw [hb18.cell (p := ⟨w6.heap.size, 0, none⟩) (show w6.heap.size < _ by (try simp) <;> (try omega))]
    exact q17_2_0
  have q18_2_1 : w18.cell? ⟨w6.heap.size, 1, none⟩ = some (.int .i64 v) := by
    rw [hb18.cell (p := ⟨w6.heap.size, 1, none⟩) (show w6.heap.size < _ by (try simp) <;> (try omega))]
    exact q17_2_1
  have q18_2_2 : w18.cell? ⟨w6.heap.size, 2, none⟩ = some (.slice a6 xs.length c6) := by
    rw [hb18.cell (p := ⟨w6.heap.size, 2, none⟩) (show w6.heap.size < _ by (try simp) <;> (try omega))]
    exact q17_2_2
  have hl18_2 : w6.heap.size < w18.heap.size := by omega
  clear q17_2_0 q17_2_1 q17_2_2
  have q18_3_0 : w18.cell? ⟨w7.heap.size, 0, none⟩ = some (.int .i64 t') := by
    rw [hb18.cell (p := ⟨w7.heap.size, 0, none⟩) (show w7.heap.size < _ by (try simp) <;> (try omega))]
    exact q17_3_0
  have q18_3_1 : w18.cell? ⟨w7.heap.size, 1, none⟩ = some (.int .i64 v') := by
    rw [hb18.cell (p := ⟨w7.heap.size, 1, none⟩) (show w7.heap.size < _ by (try simp) <;> (try omega))]
    exact q17_3_1
  have q18_3_2 : w18.cell? ⟨w7.heap.size, 2, none⟩ = some (.slice a7 ys.length c7) := by
    rw [hb18.cell (p := ⟨w7.heap.size, 2, none⟩) (show w7.heap.size < _ by (try simp) <;> (try omega))]
    exact q17_3_2
  have hl18_3 : w7.heap.size < w18.heap.size := by omega
  clear q17_3_0 q17_3_1 q17_3_2
  have HB18 : Hid (Below w.heap.size w w18) := HB17.out.trans (hb18.mono (by (try simp) <;> (try omega)))
  clear hb18
  go_wp2_with fail
  go_region_held3 (fun w' => w'.cell? ⟨w.heap.size, 0, none⟩ = some (.int .i64 t) ∧ w'.cell? ⟨w.heap.size, 1, none⟩ = some (.int .i64 v) ∧ w'.cell? ⟨w.heap.size, 2, none⟩ = some (.slice a xs.length ca) ∧ w'.cell? ⟨w.heap.size + 1, 0, none⟩ = some (.int .i64 t') ∧ w'.cell? ⟨w.heap.size + 1, 1, none⟩ = some (.int .i64 v') ∧ w'.cell? ⟨w.heap.size + 1, 2, none⟩ = some (.slice b ys.length cb))
    (first | go_keep | (repeat' apply And.intro) <;> assumption)
    (first
    | (have tok21 := hb20
       clear tok21
       go_at_call 14
       refine (IP.out a19 a20 c19 c20 _ ((hf19.below hb20).here.sl fun _ => rfl) (hf20.here.sl fun _ => rfl) (hf20.here.fits)).mono ?_
       rintro e w21 ⟨a21, c21, rfl, hf21, hb21⟩
       have hz21 := hb21.size
       try simp at hz21
       have q21_0_0 : w21.cell? ⟨w.heap.size, 0, none⟩ = some (.int .i64 t) := by
         rw [hb21.cell (p := ⟨w.heap.size, 0, none⟩) (show w.heap.size < _ by (try simp) <;> (try omega))]
         first | assumption | (simp [go_sem, *])
       have q21_0_1 : w21.cell? ⟨w.heap.size, 1, none⟩ = some (.int .i64 v) := by
         rw [hb21.cell (p := ⟨w.heap.size, 1, none⟩) (show w.heap.size < _ by (try simp) <;> (try omega))]
         first | assumption | (simp [go_sem, *])
       have q21_0_2 : w21.cell? ⟨w.heap.size, 2, none⟩ = some (.slice a xs.length ca) := by
         rw [hb21.cell (p := ⟨w.heap.size, 2, none⟩) (show w.heap.size < _ by (try simp) <;> (try omega))]
         first | assumption | (simp [go_sem, *])
       have hl21_0 : w.heap.size < w21.heap.size := by omega
       have q21_1_0 : w21.cell? ⟨w.heap.size + 1, 0, none⟩ = some (.int .i64 t') := by
         rw [hb21.cell (p := ⟨w.heap.size + 1, 0, none⟩) (show w.heap.size + 1 < _ by (try simp) <;> (try omega))]
         first | assumption | (simp [go_sem, *])
       have q21_1_1 : w21.cell? ⟨w.heap.size + 1, 1, none⟩ = some (.int .i64 v') := by
         rw [hb21.cell (p := ⟨w.heap.size + 1, 1, none⟩) (show w.heap.size + 1 < _ by (try simp) <;> (try omega))]
         first | assumption | (simp [go_sem, *])
       have q21_1_2 : w21.cell? ⟨w.heap.size + 1, 2, none⟩ = some (.slice b ys.length cb) := by
         rw [hb21.cell (p := ⟨w.heap.size + 1, 2, none⟩) (show w.heap.size + 1 < _ by (try simp) <;> (try omega))]
         first | assumption | (simp [go_sem, *])
       have hl21_1 : w.heap.size + 1 < w21.heap.size := by omega)
    | (have tok20 := hb19
       clear tok20
       go_at_call 13
       refine (toState_c b cb ys t' v' _ ((hb.keep (HB18.out.drew)).keep hb19) ly).mono ?_
       rintro e w20 ⟨a20, c20, rfl, hf20, hb20⟩
       have hz20 := hb20.size
       try simp at hz20
       have q20_0_0 : w20.cell? ⟨w.heap.size, 0, none⟩ = some (.int .i64 t) := by
         rw [hb20.cell (p := ⟨w.heap.size, 0, none⟩) (show w.heap.size < _ by (try simp) <;> (try omega))]
         first | assumption | (simp [go_sem, *])
       have q20_0_1 : w20.cell? ⟨w.heap.size, 1, none⟩ = some (.int .i64 v) := by
         rw [hb20.cell (p := ⟨w.heap.size, 1, none⟩) (show w.heap.size < _ by (try simp) <;> (try omega))]
         first | assumption | (simp [go_sem, *])
       have q20_0_2 : w20.cell? ⟨w.heap.size, 2, none⟩ = some (.slice a xs.length ca) := by
         rw [hb20.cell (p := ⟨w.heap.size, 2, none⟩) (show w.heap.size < _ by (try simp) <;> (try omega))]
         first | assumption | (simp [go_sem, *])
       have hl20_0 : w.heap.size < w20.heap.size := by omega
       have q20_1_0 : w20.cell? ⟨w.heap.size + 1, 0, none⟩ = some (.int .i64 t') := by
         rw [hb20.cell (p := ⟨w.heap.size + 1, 0, none⟩) (show w.heap.size + 1 < _ by (try simp) <;> (try omega))]
         first | assumption | (simp [go_sem, *])
       have q20_1_1 : w20.cell? ⟨w.heap.size + 1, 1, none⟩ = some (.int .i64 v') := by
         rw [hb20.cell (p := ⟨w.heap.size + 1, 1, none⟩) (show w.heap.size + 1 < _ by (try simp) <;> (try omega))]
         first | assumption | (simp [go_sem, *])
       have q20_1_2 : w20.cell? ⟨w.heap.size + 1, 2, none⟩ = some (.slice b ys.length cb) := by
         rw [hb20.cell (p := ⟨w.heap.size + 1, 2, none⟩) (show w.heap.size + 1 < _ by (try simp) <;> (try omega))]
         first | assumption | (simp [go_sem, *])
       have hl20_1 : w.heap.size + 1 < w20.heap.size := by omega)
    | (go_at_call 13
       refine (toState_c a ca xs t v _ (ha.keep (HB18.out.drew)) lx).mono ?_
       rintro e w19 ⟨a19, c19, rfl, hf19, hb19⟩
       have hz19 := hb19.size
       try simp at hz19
       have q19_0_0 : w19.cell? ⟨w.heap.size, 0, none⟩ = some (.int .i64 t) := by
         rw [hb19.cell (p := ⟨w.heap.size, 0, none⟩) (show w.heap.size < _ by (try simp) <;> (try omega))]
         first | assumption | (simp [go_sem, *])
       have q19_0_1 : w19.cell? ⟨w.heap.size, 1, none⟩ = some (.int .i64 v) := by
         rw [hb19.cell (p := ⟨w.heap.size, 1, none⟩) (show w.heap.size < _ by (try simp) <;> (try omega))]
         first | assumption | (simp [go_sem, *])
       have q19_0_2 : w19.cell? ⟨w.heap.size, 2, none⟩ = some (.slice a xs.length ca) := by
         rw [hb19.cell (p := ⟨w.heap.size, 2, none⟩) (show w.heap.size < _ by (try simp) <;> (try omega))]
         first | assumption | (simp [go_sem, *])
       have hl19_0 : w.heap.size < w19.heap.size := by omega
       have q19_1_0 : w19.cell? ⟨w.heap.size + 1, 0, none⟩ = some (.int .i64 t') := by
         rw [hb19.cell (p := ⟨w.heap.size + 1, 0, none⟩) (show w.heap.size + 1 < _ by (try simp) <;> (try omega))]
         first | assumption | (simp [go_sem, *])
       have q19_1_1 : w19.cell? ⟨w.heap.size + 1, 1, none⟩ = some (.int .i64 v') := by
         rw [hb19.cell (p := ⟨w.heap.size + 1, 1, none⟩) (show w.heap.size + 1 < _ by (try simp) <;> (try omega))]
         first | assumption | (simp [go_sem, *])
       have q19_1_2 : w19.cell? ⟨w.heap.size + 1, 2, none⟩ = some (.slice b ys.length cb) := by
         rw [hb19.cell (p := ⟨w.heap.size + 1, 2, none⟩) (show w.heap.size + 1 < _ by (try simp) <;> (try omega))]
         first | assumption | (simp [go_sem, *])
       have hl19_1 : w.heap.size + 1 < w19.heap.size := by omega))
  have hr21 : Below w18.heap.size w18 w21 := (((((Below.refl _ _).drew).trans (hb19.mono (by (try simp) <;> (try omega)))).trans (hb20.mono (by (try simp) <;> (try omega)))).trans (hb21.mono (by (try simp) <;> (try omega))))
  have hzr21 := hr21.size
  have HG521 := Lib.hid (HG518.out.below hr21)
  clear HG518
  have HM21 := Lib.hid (HM18.out.below hr21)
  clear HM18
  have HB21 : Hid (Below w.heap.size w w21) := HB18.out.trans (hr21.mono (by omega))
  clear q18_0_0 q18_0_1 q18_0_2 q19_0_0 q19_0_1 q19_0_2 q20_0_0 q20_0_1 q20_0_2 q18_1_0 q18_1_1 q18_1_2 q19_1_0 q19_1_1 q19_1_2 q20_1_0 q20_1_1 q20_1_2 hb19 hb20 hb21 hr21
  have HG21 := Lib.hid hf21.here
  clear hf19 hf20 hf21
  go_wp2_with fail
  refine (eqStringS_c a21 a5 c21 c5 R R _ (HG21.out.sl fun _ => rfl) (HG521.out.sl fun _ => rfl) (by omega) (by omega)).mono ?_
  simp only [decide_true]
  rintro e w22 ⟨rfl, hb22⟩
  have hz22 := hb22.size
  have HG522 := Lib.hid (HG521.out.below hb22)
  clear HG521
  have HM22 := Lib.hid (HM21.out.below hb22)
  clear HM21
  have HG2122 := Lib.hid (HG21.out.below hb22)
  clear HG21
  have q22_0_0 : w22.cell? ⟨w.heap.size, 0, none⟩ = some (.int .i64 t) := by
    rw [hb22.cell (p := ⟨w.heap.size, 0, none⟩) (show w.heap.size < _ by (try simp) <;> (try omega))]
    exact q21_0_0
  have q22_0_1 : w22.cell? ⟨w.heap.size, 1, none⟩ = some (.int .i64 v) := by
    rw [hb22.cell (p := ⟨w.heap.size, 1, none⟩) (show w.heap.size < _ by (try simp) <;> (try omega))]
    exact q21_0_1
  have q22_0_2 : w22.cell? ⟨w.heap.size, 2, none⟩ = some (.slice a xs.length ca) := by
    rw [hb22.cell (p := ⟨w.heap.size, 2, none⟩) (show w.heap.size < _ by (try simp) <;> (try omega))]
    exact q21_0_2
  have hl22_0 : w.heap.size < w22.heap.size := by omega
  clear q21_0_0 q21_0_1 q21_0_2
  have q22_1_0 : w22.cell? ⟨w.heap.size + 1, 0, none⟩ = some (.int .i64 t') := by
    rw [hb22.cell (p := ⟨w.heap.size + 1, 0, none⟩) (show w.heap.size + 1 < _ by (try simp) <;> (try omega))]
    exact q21_1_0
  have q22_1_1 : w22.cell? ⟨w.heap.size + 1, 1, none⟩ = some (.int .i64 v') := by
    rw [hb22.cell (p := ⟨w.heap.size + 1, 1, none⟩) (show w.heap.size + 1 < _ by (try simp) <;> (try omega))]
    exact q21_1_1
  have q22_1_2 : w22.cell? ⟨w.heap.size + 1, 2, none⟩ = some (.slice b ys.length cb) := by
    rw [hb22.cell (p := ⟨w.heap.size + 1, 2, none⟩) (show w.heap.size + 1 < _ by (try simp) <;> (try omega))]
    exact q21_1_2
  have hl22_1 : w.heap.size + 1 < w22.heap.size := by omega
  clear q21_1_0 q21_1_1 q21_1_2
  have HB22 : Hid (Below w.heap.size w w22) := HB21.out.trans (hb22.mono (by (try simp) <;> (try omega)))
  clear hb22
  go_wp2_with fail
  refine (heldStringS_c a8 c8 R.length 1 _ (HM22.out.slm2) (by omega)).mono ?_
  rintro e w23 ⟨rfl, hb23⟩
  have hz23 := hb23.size
  have HG523 := Lib.hid (HG522.out.below hb23)
  clear HG522
  have HM23 := Lib.hid (HM22.out.below hb23)
  clear HM22
  have HG2123 := Lib.hid (HG2122.out.below hb23)
  clear HG2122
  have q23_0_0 : w23.cell? ⟨w.heap.size, 0, none⟩ = some (.int .i64 t) := by
    rw [hb23.cell (p := ⟨w.heap.size, 0, none⟩) (show w.heap.size < _ by (try simp) <;> (try omega))]
    exact q22_0_0
  have q23_0_1 : w23.cell? ⟨w.heap.size, 1, none⟩ = some (.int .i64 v) := by
    rw [hb23.cell (p := ⟨w.heap.size, 1, none⟩) (show w.heap.size < _ by (try simp) <;> (try omega))]
    exact q22_0_1
  have q23_0_2 : w23.cell? ⟨w.heap.size, 2, none⟩ = some (.slice a xs.length ca) := by
    rw [hb23.cell (p := ⟨w.heap.size, 2, none⟩) (show w.heap.size < _ by (try simp) <;> (try omega))]
    exact q22_0_2
  have hl23_0 : w.heap.size < w23.heap.size := by omega
  clear q22_0_0 q22_0_1 q22_0_2
  have q23_1_0 : w23.cell? ⟨w.heap.size + 1, 0, none⟩ = some (.int .i64 t') := by
    rw [hb23.cell (p := ⟨w.heap.size + 1, 0, none⟩) (show w.heap.size + 1 < _ by (try simp) <;> (try omega))]
    exact q22_1_0
  have q23_1_1 : w23.cell? ⟨w.heap.size + 1, 1, none⟩ = some (.int .i64 v') := by
    rw [hb23.cell (p := ⟨w.heap.size + 1, 1, none⟩) (show w.heap.size + 1 < _ by (try simp) <;> (try omega))]
    exact q22_1_1
  have q23_1_2 : w23.cell? ⟨w.heap.size + 1, 2, none⟩ = some (.slice b ys.length cb) := by
    rw [hb23.cell (p := ⟨w.heap.size + 1, 2, none⟩) (show w.heap.size + 1 < _ by (try simp) <;> (try omega))]
    exact q22_1_2
  have hl23_1 : w.heap.size + 1 < w23.heap.size := by omega
  clear q22_1_0 q22_1_1 q22_1_2
  have HB23 : Hid (Below w.heap.size w w23) := HB22.out.trans (hb23.mono (by (try simp) <;> (try omega)))
  clear hb23
  go_wp2_with fail
  go_ret
  exact ⟨rfl, HB23.out⟩
end Go.Proofs.Ytmdjcoeijlnloaa
