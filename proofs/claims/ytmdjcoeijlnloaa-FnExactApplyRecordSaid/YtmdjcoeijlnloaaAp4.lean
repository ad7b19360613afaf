/- The law FnExactApplyRecord: its walk. -/
import Derived.Test.YtmdjcoeijlnloaaApRec
import Derived.Test.YtmdjcoeijlnloaaMarkState
import Derived.Deep.RegionHeld3
namespace Go.Proofs.Ytmdjcoeijlnloaa
set_option linter.unusedVariables false
set_option linter.unusedSimpArgs false
open Go.RowKit
theorem FreshIn.slq {α : Type} {enc : α → List Value} {sz lo hi n ca : Nat} {f : Nat → α} {a : Option Addr} {e : TypeId} {w : World} (hs : ∀ x, (enc x).length = sz) (h : FreshIn enc e sz lo hi (.slice a n ca) ((List.range n).map f) w) : Sl enc sz w a ((List.range n).map f) := by
  have h' : FreshIn enc e sz lo hi (.slice a ((List.range n).map f).length ca) ((List.range n).map f) w := by simpa using h
  exact h'.sl hs
set_option maxRecDepth 100000 in
set_option maxHeartbeats 16000000 in
theorem lawApply_c (t v : Int) (a : Option Addr) (ca : Nat) (xs : List Ent) (S : ByteArray) (w : World) (ha : Sl entE 2 w a xs) (la : xs.length ≤ 9223372036854775807) (sa : ∀ s ∈ xs, s.2.size ≤ 9223372036854775807) (lS : S.size ≤ 9223372036854775807) :
    Calls Try.prog 4 #[.agg #[.int .i64 t, .int .i64 v, .slice a xs.length ca], .string S] w fun e w' => e = .returned (.bool true) ∧ Below w.heap.size w w' := by
  have SA := Lib.hid sa
  clear sa
  by_cases hbig : 1048576 < S.size
  · have hbig' : (1048576 : Int) < (S.size : Int) := by omega
    go_enter Try.func4, Try.ntmps4
    go_wp2_with fail
    go_ret
    exact ⟨rfl, (Below.refl _ _).alloc (Nat.le_refl _) _⟩
  have hS : S.size ≤ 1048576 := by omega
  have hS' : (S.size : Int) ≤ 1048576 := by omega
  clear hbig
  go_enter Try.func4, Try.ntmps4
  go_wp2_with fail
  refine (szState_c a ca xs t v _ _ (ha.alloc _) la SA.out (by omega) (by omega)).mono ?_
  rintro e w1 ⟨⟨n, rfl, hn, himp⟩, hb1⟩
  have hz1 := hb1.size
  simp only [World.size_alloc] at hz1
  have HI := Lib.hid himp
  clear himp
  have q1_0_0 : w1.cell? ⟨w.heap.size, 0, none⟩ = some (.int .i64 t) := by
    rw [hb1.cell (p := ⟨w.heap.size, 0, none⟩) (show w.heap.size < _ by (try simp) <;> (try omega))]
    first | assumption | (simp [go_sem, *])
  have q1_0_1 : w1.cell? ⟨w.heap.size, 1, none⟩ = some (.int .i64 v) := by
    rw [hb1.cell (p := ⟨w.heap.size, 1, none⟩) (show w.heap.size < _ by (try simp) <;> (try omega))]
    first | assumption | (simp [go_sem, *])
  have q1_0_2 : w1.cell? ⟨w.heap.size, 2, none⟩ = some (.slice a xs.length ca) := by
    rw [hb1.cell (p := ⟨w.heap.size, 2, none⟩) (show w.heap.size < _ by (try simp) <;> (try omega))]
    first | assumption | (simp [go_sem, *])
  have hl1_0 : w.heap.size < w1.heap.size := by omega
  have HB1 : Hid (Below w.heap.size w w1) := ((Below.refl w.heap.size w).alloc (by (try simp) <;> (try omega)) _).trans (hb1.mono (by (try simp) <;> (try omega)))
  clear hb1
  by_cases hneg : n < 0
  · go_wp2_with fail
    go_ret
    exact ⟨rfl, HB1.out⟩
  have lx := (HI.out (by omega)).1
  have SX := Lib.hid (HI.out (by omega)).2
  have hl0 : S.data.toList.length ≤ 1048576 := hS
  obtain ⟨o, ho⟩ : ∃ o, o = arS t v xs S.data.toList := ⟨_, rfl⟩
  obtain ⟨C, hC⟩ : ∃ C, C = arC t v xs S.data.toList := ⟨_, rfl⟩
  have hcl : o.2.2.length ≤ 60 := by rw [ho]; exact arS_length _ _ _ _
  have SP : Hid (∀ (a : Option Addr) (ca : Nat) (w : World), Sl entE 2 w a xs → Calls Try.prog 20 #[.agg #[.int .i64 t, .int .i64 v, .slice a xs.length ca], .string S] w (ArR o.1 o.2.1 o.2.2 C w)) := Lib.hid (fun a ca w ha => by
    rw [ho, hC]
    exact specARec_c a ca xs t v S.data.toList w ha lx SX.out hl0)
  have IP : Hid (∀ (a : Option Addr) (ca : Nat) (w : World), Sl entE 2 w a xs → Calls Try.prog 21 #[.agg #[.int .i64 t, .int .i64 v, .slice a xs.length ca], .string S] w (ArR o.1 o.2.1 o.2.2 C w)) := Lib.hid (fun a ca w ha => by
    rw [ho, hC]
    exact implARec_c a ca xs t v S.data.toList w ha lx SX.out hl0)
  clear ho hC hl0 HI SX
  obtain ⟨t1, v1, R⟩ := o
  dsimp only at hcl SP IP
  go_wp2_with fail
  refine (toState_c a ca xs t v _ (ha.keep HB1.out) lx).mono ?_
  rintro e w2 ⟨a2, c2, rfl, hf2, hb2⟩
  have hz2 := hb2.size
  have HX22 := Lib.hid (show FreshIn entE 109 2 (w1.heap.size) w2.heap.size (.slice a2 xs.length c2) xs w2 from (by simpa using hf2.here))
  clear hf2
  have q2_0_0 : w2.cell? ⟨w.heap.size, 0, none⟩ = some (.int .i64 t) := by
    rw [hb2.cell (p := ⟨w.heap.size, 0, none⟩) (show w.heap.size < _ by (try simp) <;> (try omega))]
    exact q1_0_0
  have q2_0_1 : w2.cell? ⟨w.heap.size, 1, none⟩ = some (.int .i64 v) := by
    rw [hb2.cell (p := ⟨w.heap.size, 1, none⟩) (show w.heap.size < _ by (try simp) <;> (try omega))]
    exact q1_0_1
  have q2_0_2 : w2.cell? ⟨w.heap.size, 2, none⟩ = some (.slice a xs.length ca) := by
    rw [hb2.cell (p := ⟨w.heap.size, 2, none⟩) (show w.heap.size < _ by (try simp) <;> (try omega))]
    exact q1_0_2
  have hl2_0 : w.heap.size < w2.heap.size := by omega
  clear q1_0_0 q1_0_1 q1_0_2
  have HB2 : Hid (Below w.heap.size w w2) := HB1.out.trans (hb2.mono (by (try simp) <;> (try omega)))
  clear hb2
  go_wp2_with fail
  refine (SP.out a2 c2 _ (HX22.out.sl fun _ => rfl)).mono ?_
  rintro e w3 ⟨a3, c3, rfl, hf3, hb3⟩
  have hz3 := hb3.size
  have HG33 := Lib.hid (show FreshIn entE 109 2 (w2.heap.size) w3.heap.size (.slice a3 R.length c3) R w3 from (by simpa using hf3.here))
  clear hf3
  have HX23 := Lib.hid (HX22.out.below hb3)
  clear HX22
  have q3_0_0 : w3.cell? ⟨w.heap.size, 0, none⟩ = some (.int .i64 t) := by
    rw [hb3.cell (p := ⟨w.heap.size, 0, none⟩) (show w.heap.size < _ by (try simp) <;> (try omega))]
    exact q2_0_0
  have q3_0_1 : w3.cell? ⟨w.heap.size, 1, none⟩ = some (.int .i64 v) := by
    rw [hb3.cell (p := ⟨w.heap.size, 1, none⟩) (show w.heap.size < _ by (try simp) <;> (try omega))]
    exact q2_0_1
  have q3_0_2 : w3.cell? ⟨w.heap.size, 2, none⟩ = some (.slice a xs.length ca) := by
    rw [hb3.cell (p := ⟨w.heap.size, 2, none⟩) (show w.heap.size < _ by (try simp) <;> (try omega))]
    exact q2_0_2
  have hl3_0 : w.heap.size < w3.heap.size := by omega
  clear q2_0_0 q2_0_1 q2_0_2
  have HB3 : Hid (Below w.heap.size w w3) := HB2.out.trans (hb3.mono (by (try simp) <;> (try omega)))
  clear hb3
  clear HX23
  go_wp2_with fail
  refine (toState_c a ca xs t v _ ((ha.keep HB3.out).alloc _) lx).mono ?_
  rintro e w4 ⟨a4, c4, rfl, hf4, hb4⟩
  have hz4 := hb4.size
  simp only [World.size_alloc] at hz4
  have HX44 := Lib.hid (show FreshIn entE 109 2 (w3.heap.size + 1) w4.heap.size (.slice a4 xs.length c4) xs w4 from (by simpa using hf4.here))
  clear hf4
  have HG34 := Lib.hid ((HG33.out.alloc _).below hb4)
  clear HG33
  have q4_0_0 : w4.cell? ⟨w.heap.size, 0, none⟩ = some (.int .i64 t) := by
    rw [hb4.cell (p := ⟨w.heap.size, 0, none⟩) (show w.heap.size < _ by (try simp) <;> (try omega))]
    first | assumption | (simp [go_sem, *])
  have q4_0_1 : w4.cell? ⟨w.heap.size, 1, none⟩ = some (.int .i64 v) := by
    rw [hb4.cell (p := ⟨w.heap.size, 1, none⟩) (show w.heap.size < _ by (try simp) <;> (try omega))]
    first | assumption | (simp [go_sem, *])
  have q4_0_2 : w4.cell? ⟨w.heap.size, 2, none⟩ = some (.slice a xs.length ca) := by
    rw [hb4.cell (p := ⟨w.heap.size, 2, none⟩) (show w.heap.size < _ by (try simp) <;> (try omega))]
    first | assumption | (simp [go_sem, *])
  have hl4_0 : w.heap.size < w4.heap.size := by omega
  clear q3_0_0 q3_0_1 q3_0_2
  have q4_1_0 : w4.cell? ⟨w3.heap.size, 0, none⟩ = some (.int .i64 t1) := by
    rw [hb4.cell (p := ⟨w3.heap.size, 0, none⟩) (show w3.heap.size < _ by (try simp) <;> (try omega))]
    first | assumption | (simp [go_sem, *])
  have q4_1_1 : w4.cell? ⟨w3.heap.size, 1, none⟩ = some (.int .i64 v1) := by
    rw [hb4.cell (p := ⟨w3.heap.size, 1, none⟩) (show w3.heap.size < _ by (try simp) <;> (try omega))]
    first | assumption | (simp [go_sem, *])
  have q4_1_2 : w4.cell? ⟨w3.heap.size, 2, none⟩ = some (.slice a3 R.length c3) := by
    rw [hb4.cell (p := ⟨w3.heap.size, 2, none⟩) (show w3.heap.size < _ by (try simp) <;> (try omega))]
    first | assumption | (simp [go_sem, *])
  have hl4_1 : w3.heap.size < w4.heap.size := by omega
  have HB4 : Hid (Below w.heap.size w w4) := (HB3.out.alloc (by (try simp) <;> (try omega)) _).trans (hb4.mono (by (try simp) <;> (try omega)))
  clear hb4
  go_wp2_with fail
  refine (IP.out a4 c4 _ ((HX44.out.alloc _).sl fun _ => rfl)).mono ?_
  rintro e w5 ⟨a5, c5, rfl, hf5, hb5⟩
  have hz5 := hb5.size
  simp only [World.size_alloc] at hz5
  have HG55 := Lib.hid (show FreshIn entE 109 2 (w4.heap.size + 1) w5.heap.size (.slice a5 R.length c5) R w5 from (by simpa using hf5.here))
  clear hf5
  have HG35 := Lib.hid ((HG34.out.alloc _).below hb5)
  clear HG34
  have HX45 := Lib.hid ((HX44.out.alloc _).below hb5)
  clear HX44
  have q5_0_0 : w5.cell? ⟨w.heap.size, 0, none⟩ = some (.int .i64 t) := by
    rw [hb5.cell (p := ⟨w.heap.size, 0, none⟩) (show w.heap.size < _ by (try simp) <;> (try omega))]
    first | assumption | (simp [go_sem, *])
  have q5_0_1 : w5.cell? ⟨w.heap.size, 1, none⟩ = some (.int .i64 v) := by
    rw [hb5.cell (p := ⟨w.heap.size, 1, none⟩) (show w.heap.size < _ by (try simp) <;> (try omega))]
    first | assumption | (simp [go_sem, *])
  have q5_0_2 : w5.cell? ⟨w.heap.size, 2, none⟩ = some (.slice a xs.length ca) := by
    rw [hb5.cell (p := ⟨w.heap.size, 2, none⟩) (show w.heap.size < _ by (try simp) <;> (try omega))]
    first | assumption | (simp [go_sem, *])
  have hl5_0 : w.heap.size < w5.heap.size := by omega
  clear q4_0_0 q4_0_1 q4_0_2
  have q5_1_0 : w5.cell? ⟨w3.heap.size, 0, none⟩ = some (.int .i64 t1) := by
    rw [hb5.cell (p := ⟨w3.heap.size, 0, none⟩) (show w3.heap.size < _ by (try simp) <;> (try omega))]
    first | assumption | (simp [go_sem, *])
  have q5_1_1 : w5.cell? ⟨w3.heap.size, 1, none⟩ = some (.int .i64 v1) := by
    rw [hb5.cell (p := ⟨w3.heap.size, 1, none⟩) (show w3.heap.size < _ by (try simp) <;> (try omega))]
    first | assumption | (simp [go_sem, *])
  have q5_1_2 : w5.cell? ⟨w3.heap.size, 2, none⟩ = some (.slice a3 R.length c3) := by
    rw [hb5.cell (p := ⟨w3.heap.size, 2, none⟩) (show w3.heap.size < _ by (try simp) <;> (try omega))]
    first | assumption | (simp [go_sem, *])
  have hl5_1 : w3.heap.size < w5.heap.size := by omega
  clear q4_1_0 q4_1_1 q4_1_2
  have q5_2_0 : w5.cell? ⟨w4.heap.size, 0, none⟩ = some (.int .i64 t) := by
    rw [hb5.cell (p := ⟨w4.heap.size, 0, none⟩) (show w4.heap.size < _ by (try simp) <;> (try omega))]
    first | assumption | (simp [go_sem, *])
  have q5_2_1 : w5.cell? ⟨w4.heap.size, 1, none⟩ = some (.int .i64 v) := by
    rw [hb5.cell (p := ⟨w4.heap.size, 1, none⟩) (show w4.heap.size < _ by (try simp) <;> (try omega))]
    first | assumption | (simp [go_sem, *])
  have q5_2_2 : w5.cell? ⟨w4.heap.size, 2, none⟩ = some (.slice a4 xs.length c4) := by
    rw [hb5.cell (p := ⟨w4.heap.size, 2, none⟩) (show w4.heap.size < _ by (try simp) <;> (try omega))]
    first | assumption | (simp [go_sem, *])
  have hl5_2 : w4.heap.size < w5.heap.size := by omega
  have HB5 : Hid (Below w.heap.size w w5) := (HB4.out.alloc (by (try simp) <;> (try omega)) _).trans (hb5.mono (by (try simp) <;> (try omega)))
  clear hb5
  go_wp2_with fail
  refine (eqState_same a5 a3 c5 c3 R t1 v1 _ ((HG55.out.alloc _).sl fun _ => rfl) ((HG35.out.alloc _).sl fun _ => rfl) (by omega)).mono ?_
  rintro e w6 ⟨rfl, hb6⟩
  have hz6 := hb6.size
  simp only [World.size_alloc] at hz6
  have HG36 := Lib.hid ((HG35.out.alloc _).below hb6)
  clear HG35
  have HX46 := Lib.hid ((HX45.out.alloc _).below hb6)
  clear HX45
  have HG56 := Lib.hid ((HG55.out.alloc _).below hb6)
  clear HG55
  have q6_0_0 : w6.cell? ⟨w.heap.size, 0, none⟩ = some (.int .i64 t) := by
    rw [hb6.cell (p := ⟨w.heap.size, 0, none⟩) (show w.heap.size < _ by (try simp) <;> (try omega))]
    first | assumption | (simp [go_sem, *])
  have q6_0_1 : w6.cell? ⟨w.heap.size, 1, none⟩ = some (.int .i64 v) := by
    rw [hb6.cell (p := ⟨w.heap.size, 1, none⟩) (show w.heap.size < _ by (try simp) <;> (try omega))]
    first | assumption | (simp [go_sem, *])
  have q6_0_2 : w6.cell? ⟨w.heap.size, 2, none⟩ = some (.slice a xs.length ca) := by
    rw [hb6.cell (p := ⟨w.heap.size, 2, none⟩) (show w.heap.size < _ by (try simp) <;> (try omega))]
    first | assumption | (simp [go_sem, *])
  have hl6_0 : w.heap.size < w6.heap.size := by omega
  clear q5_0_0 q5_0_1 q5_0_2
  have q6_1_0 : w6.cell? ⟨w3.heap.size, 0, none⟩ = some (.int .i64 t1) := by
    rw [hb6.cell (p := ⟨w3.heap.size, 0, none⟩) (show w3.heap.size < _ by (try simp) <;> (try omega))]
    first | assumption | (simp [go_sem, *])
  have q6_1_1 : w6.cell? ⟨w3.heap.size, 1, none⟩ = some (.int .i64 v1) := by
    rw [hb6.cell (p := ⟨w3.heap.size, 1, none⟩) (show w3.heap.size < _ by (try simp) <;> (try omega))]
    first | assumption | (simp [go_sem, *])
  have q6_1_2 : w6.cell? ⟨w3.heap.size, 2, none⟩ = some (.slice a3 R.length c3) := by
    rw [hb6.cell (p := ⟨w3.heap.size, 2, none⟩) (show w3.heap.size < _ by (try simp) <;> (try omega))]
    first | assumption | (simp [go_sem, *])
  have hl6_1 : w3.heap.size < w6.heap.size := by omega
  clear q5_1_0 q5_1_1 q5_1_2
  have q6_2_0 : w6.cell? ⟨w4.heap.size, 0, none⟩ = some (.int .i64 t) := by
    rw [hb6.cell (p := ⟨w4.heap.size, 0, none⟩) (show w4.heap.size < _ by (try simp) <;> (try omega))]
    first | assumption | (simp [go_sem, *])
  have q6_2_1 : w6.cell? ⟨w4.heap.size, 1, none⟩ = some (.int .i64 v) := by
    rw [hb6.cell (p := ⟨w4.heap.size, 1, none⟩) (show w4.heap.size < _ by (try simp) <;> (try omega))]
    first | assumption | (simp [go_sem, *])
  have q6_2_2 : w6.cell? ⟨w4.heap.size, 2, none⟩ = some (.slice a4 xs.length c4) := by
    rw [hb6.cell (p := ⟨w4.heap.size, 2, none⟩) (show w4.heap.size < _ by (try simp) <;> (try omega))]
    first | assumption | (simp [go_sem, *])
  have hl6_2 : w4.heap.size < w6.heap.size := by omega
  clear q5_2_0 q5_2_1 q5_2_2
  have q6_3_0 : w6.cell? ⟨w5.heap.size, 0, none⟩ = some (.int .i64 t1) := by
    rw [hb6.cell (p := ⟨w5.heap.size, 0, none⟩) (show w5.heap.size < _ by (try simp) <;> (try omega))]
    first | assumption | (simp [go_sem, *])
  have q6_3_1 : w6.cell? ⟨w5.heap.size, 1, none⟩ = some (.int .i64 v1) := by
    rw [hb6.cell (p := ⟨w5.heap.size, 1, none⟩) (show w5.heap.size < _ by (try simp) <;> (try omega))]
    first | assumption | (simp [go_sem, *])
  have q6_3_2 : w6.cell? ⟨w5.heap.size, 2, none⟩ = some (.slice a5 R.length c5) := by
    rw [hb6.cell (p := ⟨w5.heap.size, 2, none⟩) (show w5.heap.size < _ by (try simp) <;> (try omega))]
    first | assumption | (simp [go_sem, *])
  have hl6_3 : w5.heap.size < w6.heap.size := by omega
  have HB6 : Hid (Below w.heap.size w w6) := (HB5.out.alloc (by (try simp) <;> (try omega)) _).trans (hb6.mono (by (try simp) <;> (try omega)))
  clear hb6
  go_wp2_with fail
  go_region_held3 (fun w' => w'.cell? ⟨w.heap.size, 0, none⟩ = some (.int .i64 t) ∧ w'.cell? ⟨w.heap.size, 1, none⟩ = some (.int .i64 v) ∧ w'.cell? ⟨w.heap.size, 2, none⟩ = some (.slice a xs.length ca) ∧ w'.cell? ⟨w3.heap.size, 0, none⟩ = some (.int .i64 t1) ∧ w'.cell? ⟨w3.heap.size, 1, none⟩ = some (.int .i64 v1) ∧ w'.cell? ⟨w3.heap.size, 2, none⟩ = some (.slice a3 R.length c3) ∧ w'.cell? ⟨w4.heap.size, 0, none⟩ = some (.int .i64 t) ∧ w'.cell? ⟨w4.heap.size, 1, none⟩ = some (.int .i64 v) ∧ w'.cell? ⟨w4.heap.size, 2, none⟩ = some (.slice a4 xs.length c4) ∧ w'.cell? ⟨w5.heap.size, 0, none⟩ = some (.int .i64 t1) ∧ w'.cell? ⟨w5.heap.size, 1, none⟩ = some (.int .i64 v1) ∧ w'.cell? ⟨w5.heap.size, 2, none⟩ = some (.slice a5 R.length c5))
    (first | go_keep | (repeat' apply And.intro) <;> assumption)
    (first
    | (have tok8 := hb7
       clear tok8
       go_at_call 16
       refine (eqState_same a4 a7 c4 c7 xs t v _ ((HX46.out.drew.below hb7).sl fun _ => rfl) (hf7.here.sl fun _ => rfl) lx).mono ?_
       rintro e w8 ⟨rfl, hb8⟩
       have hz8 := hb8.size
       try simp at hz8
       have q8_0_0 : w8.cell? ⟨w.heap.size, 0, none⟩ = some (.int .i64 t) := by
         rw [hb8.cell (p := ⟨w.heap.size, 0, none⟩) (show w.heap.size < _ by (try simp) <;> (try omega))]
         first | assumption | (simp [go_sem, *])
       have q8_0_1 : w8.cell? ⟨w.heap.size, 1, none⟩ = some (.int .i64 v) := by
         rw [hb8.cell (p := ⟨w.heap.size, 1, none⟩) (show w.heap.size < _ by (try simp) <;> (try omega))]
         first | assumption | (simp [go_sem, *])
       have q8_0_2 : w8.cell? ⟨w.heap.size, 2, none⟩ = some (.slice a xs.length ca) := by
         rw [hb8.cell (p := ⟨w.heap.size, 2, none⟩) (show w.heap.size < _ by (try simp) <;> (try omega))]
         first | assumption | (simp [go_sem, *])
       have hl8_0 : w.heap.size < w8.heap.size := by omega
       have q8_1_0 : w8.cell? ⟨w3.heap.size, 0, none⟩ = some (.int .i64 t1) := by
         rw [hb8.cell (p := ⟨w3.heap.size, 0, none⟩) (show w3.heap.size < _ by (try simp) <;> (try omega))]
         first | assumption | (simp [go_sem, *])
       have q8_1_1 : w8.cell? ⟨w3.heap.size, 1, none⟩ = some (.int .i64 v1) := by
         rw [hb8.cell (p := ⟨w3.heap.size, 1, none⟩) (show w3.heap.size < _ by (try simp) <;> (try omega))]
         first | assumption | (simp [go_sem, *])
       have q8_1_2 : w8.cell? ⟨w3.heap.size, 2, none⟩ = some (.slice a3 R.length c3) := by
         rw [hb8.cell (p := ⟨w3.heap.size, 2, none⟩) (show w3.heap.size < _ by (try simp) <;> (try omega))]
         first | assumption | (simp [go_sem, *])
       have hl8_1 : w3.heap.size < w8.heap.size := by omega
       have q8_2_0 : w8.cell? ⟨w4.heap.size, 0, none⟩ = some (.int .i64 t) := by
         rw [hb8.cell (p := ⟨w4.heap.size, 0, none⟩) (show w4.heap.size < _ by (try simp) <;> (try omega))]
         first | assumption | (simp [go_sem, *])
       have q8_2_1 : w8.cell? ⟨w4.heap.size, 1, none⟩ = some (.int .i64 v) := by
         rw [hb8.cell (p := ⟨w4.heap.size, 1, none⟩) (show w4.heap.size < _ by (try simp) <;> (try omega))]
         first | assumption | (simp [go_sem, *])
       have q8_2_2 : w8.cell? ⟨w4.heap.size, 2, none⟩ = some (.slice a4 xs.length c4) := by
         rw [hb8.cell (p := ⟨w4.heap.size, 2, none⟩) (show w4.heap.size < _ by (try simp) <;> (try omega))]
         first | assumption | (simp [go_sem, *])
       have hl8_2 : w4.heap.size < w8.heap.size := by omega
       have q8_3_0 : w8.cell? ⟨w5.heap.size, 0, none⟩ = some (.int .i64 t1) := by
         rw [hb8.cell (p := ⟨w5.heap.size, 0, none⟩) (show w5.heap.size < _ by (try simp) <;> (try omega))]
         first | assumption | (simp [go_sem, *])
       have q8_3_1 : w8.cell? ⟨w5.heap.size, 1, none⟩ = some (.int .i64 v1) := by
         rw [hb8.cell (p := ⟨w5.heap.size, 1, none⟩) (show w5.heap.size < _ by (try simp) <;> (try omega))]
         first | assumption | (simp [go_sem, *])
       have q8_3_2 : w8.cell? ⟨w5.heap.size, 2, none⟩ = some (.slice a5 R.length c5) := by
         rw [hb8.cell (p := ⟨w5.heap.size, 2, none⟩) (show w5.heap.size < _ by (try simp) <;> (try omega))]
         first | assumption | (simp [go_sem, *])
       have hl8_3 : w5.heap.size < w8.heap.size := by omega)
    | (go_at_call 13
       refine (toState_c a ca xs t v _ (ha.keep (HB6.out.drew)) lx).mono ?_
       rintro e w7 ⟨a7, c7, rfl, hf7, hb7⟩
       have hz7 := hb7.size
       try simp at hz7
       have q7_0_0 : w7.cell? ⟨w.heap.size, 0, none⟩ = some (.int .i64 t) := by
         rw [hb7.cell (p := ⟨w.heap.size, 0, none⟩) (show w.heap.size < _ by (try simp) <;> (try omega))]
         first | assumption | (simp [go_sem, *])
       have q7_0_1 : w7.cell? ⟨w.heap.size, 1, none⟩ = some (.int .i64 v) := by
         rw [hb7.cell (p := ⟨w.heap.size, 1, none⟩) (show w.heap.size < _ by (try simp) <;> (try omega))]
         first | assumption | (simp [go_sem, *])
       have q7_0_2 : w7.cell? ⟨w.heap.size, 2, none⟩ = some (.slice a xs.length ca) := by
         rw [hb7.cell (p := ⟨w.heap.size, 2, none⟩) (show w.heap.size < _ by (try simp) <;> (try omega))]
         first | assumption | (simp [go_sem, *])
       have hl7_0 : w.heap.size < w7.heap.size := by omega
       have q7_1_0 : w7.cell? ⟨w3.heap.size, 0, none⟩ = some (.int .i64 t1) := by
         rw [hb7.cell (p := ⟨w3.heap.size, 0, none⟩) (show w3.heap.size < _ by (try simp) <;> (try omega))]
         first | assumption | (simp [go_sem, *])
       have q7_1_1 : w7.cell? ⟨w3.heap.size, 1, none⟩ = some (.int .i64 v1) := by
         rw [hb7.cell (p := ⟨w3.heap.size, 1, none⟩) (show w3.heap.size < _ by (try simp) <;> (try omega))]
         first | assumption | (simp [go_sem, *])
       have q7_1_2 : w7.cell? ⟨w3.heap.size, 2, none⟩ = some (.slice a3 R.length c3) := by
         rw [hb7.cell (p := ⟨w3.heap.size, 2, none⟩) (show w3.heap.size < _ by (try simp) <;> (try omega))]
         first | assumption | (simp [go_sem, *])
       have hl7_1 : w3.heap.size < w7.heap.size := by omega
       have q7_2_0 : w7.cell? ⟨w4.heap.size, 0, none⟩ = some (.int .i64 t) := by
         rw [hb7.cell (p := ⟨w4.heap.size, 0, none⟩) (show w4.heap.size < _ by (try simp) <;> (try omega))]
         first | assumption | (simp [go_sem, *])
       have q7_2_1 : w7.cell? ⟨w4.heap.size, 1, none⟩ = some (.int .i64 v) := by
         rw [hb7.cell (p := ⟨w4.heap.size, 1, none⟩) (show w4.heap.size < _ by (try simp) <;> (try omega))]
         first | assumption | (simp [go_sem, *])
       have q7_2_2 : w7.cell? ⟨w4.heap.size, 2, none⟩ = some (.slice a4 xs.length c4) := by
         rw [hb7.cell (p := ⟨w4.heap.size, 2, none⟩) (show w4.heap.size < _ by (try simp) <;> (try omega))]
         first | assumption | (simp [go_sem, *])
       have hl7_2 : w4.heap.size < w7.heap.size := by omega
       have q7_3_0 : w7.cell? ⟨w5.heap.size, 0, none⟩ = some (.int .i64 t1) := by
         rw [hb7.cell (p := ⟨w5.heap.size, 0, none⟩) (show w5.heap.size < _ by (try simp) <;> (try omega))]
         first | assumption | (simp [go_sem, *])
       have q7_3_1 : w7.cell? ⟨w5.heap.size, 1, none⟩ = some (.int .i64 v1) := by
         rw [hb7.cell (p := ⟨w5.heap.size, 1, none⟩) (show w5.heap.size < _ by (try simp) <;> (try omega))]
         first | assumption | (simp [go_sem, *])
       have q7_3_2 : w7.cell? ⟨w5.heap.size, 2, none⟩ = some (.slice a5 R.length c5) := by
         rw [hb7.cell (p := ⟨w5.heap.size, 2, none⟩) (show w5.heap.size < _ by (try simp) <;> (try omega))]
         first | assumption | (simp [go_sem, *])
       have hl7_3 : w5.heap.size < w7.heap.size := by omega))
  have hr8 : Below w6.heap.size w6 w8 := ((((Below.refl _ _).drew).trans (hb7.mono (by (try simp) <;> (try omega)))).trans (hb8.mono (by (try simp) <;> (try omega))))
  have hzr8 := hr8.size
  have HG38 := Lib.hid (HG36.out.below hr8)
  clear HG36
  have HX48 := Lib.hid (HX46.out.below hr8)
  clear HX46
  have HG58 := Lib.hid (HG56.out.below hr8)
  clear HG56
  have HB8 : Hid (Below w.heap.size w w8) := HB6.out.trans (hr8.mono (by omega))
  clear q6_0_0 q6_0_1 q6_0_2 q7_0_0 q7_0_1 q7_0_2 q6_1_0 q6_1_1 q6_1_2 q7_1_0 q7_1_1 q7_1_2 q6_2_0 q6_2_1 q6_2_2 q7_2_0 q7_2_1 q7_2_2 q6_3_0 q6_3_1 q6_3_2 q7_3_0 q7_3_1 q7_3_2 hb7 hb8 hr8
  clear hf7
  go_wp2_with fail
  refine (markState_c a4 c4 xs t v 1 (w3.heap.size + 1) (w4.heap.size) _ HX48.out (by omega) (by omega) (by omega)).mono ?_
  rintro e w9 ⟨rfl, _, hb9⟩
  have hz9 := hb9.size
  have hq1 : 1 + 2 * xs.length ≤ 4194304 := by omega
  generalize hQ1 : 1 + 2 * xs.length = Q1 at hq1 ⊢
  clear hQ1
  have HG39 := Lib.hid (HG38.out.mid hb9 (by omega))
  clear HG38
  have HG59 := Lib.hid (HG58.out.mid hb9 (by omega))
  clear HG58
  have q9_0_0 : w9.cell? ⟨w.heap.size, 0, none⟩ = some (.int .i64 t) := by
    rw [hb9.cell (p := ⟨w.heap.size, 0, none⟩) (show w.heap.size < _ by (try simp) <;> (try omega)) (by show w.heap.size < _ ∨ _ ≤ w.heap.size; omega)]
    exact q8_0_0
  have q9_0_1 : w9.cell? ⟨w.heap.size, 1, none⟩ = some (.int .i64 v) := by
    rw [hb9.cell (p := ⟨w.heap.size, 1, none⟩) (show w.heap.size < _ by (try simp) <;> (try omega)) (by show w.heap.size < _ ∨ _ ≤ w.heap.size; omega)]
    exact q8_0_1
  have q9_0_2 : w9.cell? ⟨w.heap.size, 2, none⟩ = some (.slice a xs.length ca) := by
    rw [hb9.cell (p := ⟨w.heap.size, 2, none⟩) (show w.heap.size < _ by (try simp) <;> (try omega)) (by show w.heap.size < _ ∨ _ ≤ w.heap.size; omega)]
    exact q8_0_2
  have hl9_0 : w.heap.size < w9.heap.size := by omega
  clear q8_0_0 q8_0_1 q8_0_2
  have q9_1_0 : w9.cell? ⟨w3.heap.size, 0, none⟩ = some (.int .i64 t1) := by
    rw [hb9.cell (p := ⟨w3.heap.size, 0, none⟩) (show w3.heap.size < _ by (try simp) <;> (try omega)) (by show w3.heap.size < _ ∨ _ ≤ w3.heap.size; omega)]
    exact q8_1_0
  have q9_1_1 : w9.cell? ⟨w3.heap.size, 1, none⟩ = some (.int .i64 v1) := by
    rw [hb9.cell (p := ⟨w3.heap.size, 1, none⟩) (show w3.heap.size < _ by (try simp) <;> (try omega)) (by show w3.heap.size < _ ∨ _ ≤ w3.heap.size; omega)]
    exact q8_1_1
  have q9_1_2 : w9.cell? ⟨w3.heap.size, 2, none⟩ = some (.slice a3 R.length c3) := by
    rw [hb9.cell (p := ⟨w3.heap.size, 2, none⟩) (show w3.heap.size < _ by (try simp) <;> (try omega)) (by show w3.heap.size < _ ∨ _ ≤ w3.heap.size; omega)]
    exact q8_1_2
  have hl9_1 : w3.heap.size < w9.heap.size := by omega
  clear q8_1_0 q8_1_1 q8_1_2
  have q9_2_0 : w9.cell? ⟨w4.heap.size, 0, none⟩ = some (.int .i64 t) := by
    rw [hb9.cell (p := ⟨w4.heap.size, 0, none⟩) (show w4.heap.size < _ by (try simp) <;> (try omega)) (by show w4.heap.size < _ ∨ _ ≤ w4.heap.size; omega)]
    exact q8_2_0
  have q9_2_1 : w9.cell? ⟨w4.heap.size, 1, none⟩ = some (.int .i64 v) := by
    rw [hb9.cell (p := ⟨w4.heap.size, 1, none⟩) (show w4.heap.size < _ by (try simp) <;> (try omega)) (by show w4.heap.size < _ ∨ _ ≤ w4.heap.size; omega)]
    exact q8_2_1
  have q9_2_2 : w9.cell? ⟨w4.heap.size, 2, none⟩ = some (.slice a4 xs.length c4) := by
    rw [hb9.cell (p := ⟨w4.heap.size, 2, none⟩) (show w4.heap.size < _ by (try simp) <;> (try omega)) (by show w4.heap.size < _ ∨ _ ≤ w4.heap.size; omega)]
    exact q8_2_2
  have hl9_2 : w4.heap.size < w9.heap.size := by omega
  clear q8_2_0 q8_2_1 q8_2_2
  have q9_3_0 : w9.cell? ⟨w5.heap.size, 0, none⟩ = some (.int .i64 t1) := by
    rw [hb9.cell (p := ⟨w5.heap.size, 0, none⟩) (show w5.heap.size < _ by (try simp) <;> (try omega)) (by show w5.heap.size < _ ∨ _ ≤ w5.heap.size; omega)]
    exact q8_3_0
  have q9_3_1 : w9.cell? ⟨w5.heap.size, 1, none⟩ = some (.int .i64 v1) := by
    rw [hb9.cell (p := ⟨w5.heap.size, 1, none⟩) (show w5.heap.size < _ by (try simp) <;> (try omega)) (by show w5.heap.size < _ ∨ _ ≤ w5.heap.size; omega)]
    exact q8_3_1
  have q9_3_2 : w9.cell? ⟨w5.heap.size, 2, none⟩ = some (.slice a5 R.length c5) := by
    rw [hb9.cell (p := ⟨w5.heap.size, 2, none⟩) (show w5.heap.size < _ by (try simp) <;> (try omega)) (by show w5.heap.size < _ ∨ _ ≤ w5.heap.size; omega)]
    exact q8_3_2
  have hl9_3 : w5.heap.size < w9.heap.size := by omega
  clear q8_3_0 q8_3_1 q8_3_2
  have HB9 : Hid (Below w.heap.size w w9) := HB8.out.trans (hb9.below (by omega) (by (try simp) <;> (try omega)))
  clear hb9
  clear HX48
  go_wp2_with fail
  refine (eqState_same a5 a3 c5 c3 R t1 v1 _ (HG59.out.sl fun _ => rfl) (HG39.out.sl fun _ => rfl) (by omega)).mono ?_
  rintro e w10 ⟨rfl, hb10⟩
  have hz10 := hb10.size
  have HG310 := Lib.hid (HG39.out.below hb10)
  clear HG39
  have HG510 := Lib.hid (HG59.out.below hb10)
  clear HG59
  have q10_0_0 : w10.cell? ⟨w.heap.size, 0, none⟩ = some (.int .i64 t) := by
    rw [hb10.cell (p := ⟨w.heap.size, 0, none⟩) (show w.heap.size < _ by (try simp) <;> (try omega))]
    exact q9_0_0
  have q10_0_1 : w10.cell? ⟨w.heap.size, 1, none⟩ = some (.int .i64 v) := by
    rw [hb10.cell (p := ⟨w.heap.size, 1, none⟩) (show w.heap.size < _ by (try simp) <;> (try omega))]
    exact q9_0_1
  have q10_0_2 : w10.cell? ⟨w.heap.size, 2, none⟩ = some (.slice a xs.length ca) := by
    rw [hb10.cell (p := ⟨w.heap.size, 2, none⟩) (show w.heap.size < _ by (try simp) <;> (try omega))]
    exact q9_0_2
  have hl10_0 : w.heap.size < w10.heap.size := by omega
  clear q9_0_0 q9_0_1 q9_0_2
  have q10_1_0 : w10.cell? ⟨w3.heap.size, 0, none⟩ = some (.int .i64 t1) := by
    rw [hb10.cell (p := ⟨w3.heap.size, 0, none⟩) (show w3.heap.size < _ by (try simp) <;> (try omega))]
    exact q9_1_0
  have q10_1_1 : w10.cell? ⟨w3.heap.size, 1, none⟩ = some (.int .i64 v1) := by
    rw [hb10.cell (p := ⟨w3.heap.size, 1, none⟩) (show w3.heap.size < _ by (try simp) <;> (try omega))]
    exact q9_1_1
  have q10_1_2 : w10.cell? ⟨w3.heap.size, 2, none⟩ = some (.slice a3 R.length c3) := by
    rw [hb10.cell (p := ⟨w3.heap.size, 2, none⟩) (show w3.heap.size < _ by (try simp) <;> (try omega))]
    exact q9_1_2
  have hl10_1 : w3.heap.size < w10.heap.size := by omega
  clear q9_1_0 q9_1_1 q9_1_2
  have q10_2_0 : w10.cell? ⟨w4.heap.size, 0, none⟩ = some (.int .i64 t) := by
    rw [hb10.cell (p := ⟨w4.heap.size, 0, none⟩) (show w4.heap.size < _ by (try simp) <;> (try omega))]
    exact q9_2_0
  have q10_2_1 : w10.cell? ⟨w4.heap.size, 1, none⟩ = some (.int .i64 v) := by
    rw [hb10.cell (p := ⟨w4.heap.size, 1, none⟩) (show w4.heap.size < _ by (try simp) <;> (try omega))]
    exact q9_2_1
  have q10_2_2 : w10.cell? ⟨w4.heap.size, 2, none⟩ = some (.slice a4 xs.length c4) := by
    rw [hb10.cell (p := ⟨w4.heap.size, 2, none⟩) (show w4.heap.size < _ by (try simp) <;> (try omega))]
    exact q9_2_2
  have hl10_2 : w4.heap.size < w10.heap.size := by omega
  clear q9_2_0 q9_2_1 q9_2_2
  have q10_3_0 : w10.cell? ⟨w5.heap.size, 0, none⟩ = some (.int .i64 t1) := by
    rw [hb10.cell (p := ⟨w5.heap.size, 0, none⟩) (show w5.heap.size < _ by (try simp) <;> (try omega))]
    exact q9_3_0
  have q10_3_1 : w10.cell? ⟨w5.heap.size, 1, none⟩ = some (.int .i64 v1) := by
    rw [hb10.cell (p := ⟨w5.heap.size, 1, none⟩) (show w5.heap.size < _ by (try simp) <;> (try omega))]
    exact q9_3_1
  have q10_3_2 : w10.cell? ⟨w5.heap.size, 2, none⟩ = some (.slice a5 R.length c5) := by
    rw [hb10.cell (p := ⟨w5.heap.size, 2, none⟩) (show w5.heap.size < _ by (try simp) <;> (try omega))]
    exact q9_3_2
  have hl10_3 : w5.heap.size < w10.heap.size := by omega
  clear q9_3_0 q9_3_1 q9_3_2
  have HB10 : Hid (Below w.heap.size w w10) := HB9.out.trans (hb10.mono (by (try simp) <;> (try omega)))
  clear hb10
  obtain ⟨QR, hQR⟩ : ∃ x, x = 1 + 2 * R.length := ⟨_, rfl⟩
  have HQR := Lib.hid hQR
  have hqr : QR ≤ 121 := by omega
  clear hQR
  go_wp2_with fail
  refine (markState_c a5 c5 R t1 v1 1 (w4.heap.size + 1) (w5.heap.size) _ HG510.out (by omega) (by omega) (by omega)).mono ?_
  unfold MarkRF
  rw [← HQR.out]
  rintro e w11 ⟨rfl, hf11, hb11⟩
  have hz11 := hb11.size
  have HM11 := Lib.hid hf11
  clear hf11
  have HG311 := Lib.hid (HG310.out.mid hb11 (by omega))
  clear HG310
  have q11_0_0 : w11.cell? ⟨w.heap.size, 0, none⟩ = some (.int .i64 t) := by
    rw [hb11.cell (p := ⟨w.heap.size, 0, none⟩) (show w.heap.size < _ by (try simp) <;> (try omega)) (by show w.heap.size < _ ∨ _ ≤ w.heap.size; omega)]
    exact q10_0_0
  have q11_0_1 : w11.cell? ⟨w.heap.size, 1, none⟩ = some (.int .i64 v) := by
    rw [hb11.cell (p := ⟨w.heap.size, 1, none⟩) (show w.heap.size < _ by (try simp) <;> (try omega)) (by show w.heap.size < _ ∨ _ ≤ w.heap.size; omega)]
    exact q10_0_1
  have q11_0_2 : w11.cell? ⟨w.heap.size, 2, none⟩ = some (.slice a xs.length ca) := by
    rw [hb11.cell (p := ⟨w.heap.size, 2, none⟩) (show w.heap.size < _ by (try simp) <;> (try omega)) (by show w.heap.size < _ ∨ _ ≤ w.heap.size; omega)]
    exact q10_0_2
  have hl11_0 : w.heap.size < w11.heap.size := by omega
  clear q10_0_0 q10_0_1 q10_0_2
  have q11_1_0 : w11.cell? ⟨w3.heap.size, 0, none⟩ = some (.int .i64 t1) := by
    rw [hb11.cell (p := ⟨w3.heap.size, 0, none⟩) (show w3.heap.size < _ by (try simp) <;> (try omega)) (by show w3.heap.size < _ ∨ _ ≤ w3.heap.size; omega)]
    exact q10_1_0
  have q11_1_1 : w11.cell? ⟨w3.heap.size, 1, none⟩ = some (.int .i64 v1) := by
    rw [hb11.cell (p := ⟨w3.heap.size, 1, none⟩) (show w3.heap.size < _ by (try simp) <;> (try omega)) (by show w3.heap.size < _ ∨ _ ≤ w3.heap.size; omega)]
    exact q10_1_1
  have q11_1_2 : w11.cell? ⟨w3.heap.size, 2, none⟩ = some (.slice a3 R.length c3) := by
    rw [hb11.cell (p := ⟨w3.heap.size, 2, none⟩) (show w3.heap.size < _ by (try simp) <;> (try omega)) (by show w3.heap.size < _ ∨ _ ≤ w3.heap.size; omega)]
    exact q10_1_2
  have hl11_1 : w3.heap.size < w11.heap.size := by omega
  clear q10_1_0 q10_1_1 q10_1_2
  have q11_2_0 : w11.cell? ⟨w4.heap.size, 0, none⟩ = some (.int .i64 t) := by
    rw [hb11.cell (p := ⟨w4.heap.size, 0, none⟩) (show w4.heap.size < _ by (try simp) <;> (try omega)) (by show w4.heap.size < _ ∨ _ ≤ w4.heap.size; omega)]
    exact q10_2_0
  have q11_2_1 : w11.cell? ⟨w4.heap.size, 1, none⟩ = some (.int .i64 v) := by
    rw [hb11.cell (p := ⟨w4.heap.size, 1, none⟩) (show w4.heap.size < _ by (try simp) <;> (try omega)) (by show w4.heap.size < _ ∨ _ ≤ w4.heap.size; omega)]
    exact q10_2_1
  have q11_2_2 : w11.cell? ⟨w4.heap.size, 2, none⟩ = some (.slice a4 xs.length c4) := by
    rw [hb11.cell (p := ⟨w4.heap.size, 2, none⟩) (show w4.heap.size < _ by (try simp) <;> (try omega)) (by show w4.heap.size < _ ∨ _ ≤ w4.heap.size; omega)]
    exact q10_2_2
  have hl11_2 : w4.heap.size < w11.heap.size := by omega
  clear q10_2_0 q10_2_1 q10_2_2
  have q11_3_0 : w11.cell? ⟨w5.heap.size, 0, none⟩ = some (.int .i64 t1) := by
    rw [hb11.cell (p := ⟨w5.heap.size, 0, none⟩) (show w5.heap.size < _ by (try simp) <;> (try omega)) (by show w5.heap.size < _ ∨ _ ≤ w5.heap.size; omega)]
    exact q10_3_0
  have q11_3_1 : w11.cell? ⟨w5.heap.size, 1, none⟩ = some (.int .i64 v1) := by
    rw [hb11.cell (p := ⟨w5.heap.size, 1, none⟩) (show w5.heap.size < _ by (try simp) <;> (try omega)) (by show w5.heap.size < _ ∨ _ ≤ w5.heap.size; omega)]
    exact q10_3_1
  have q11_3_2 : w11.cell? ⟨w5.heap.size, 2, none⟩ = some (.slice a5 R.length c5) := by
    rw [hb11.cell (p := ⟨w5.heap.size, 2, none⟩) (show w5.heap.size < _ by (try simp) <;> (try omega)) (by show w5.heap.size < _ ∨ _ ≤ w5.heap.size; omega)]
    exact q10_3_2
  have hl11_3 : w5.heap.size < w11.heap.size := by omega
  clear q10_3_0 q10_3_1 q10_3_2
  have HB11 : Hid (Below w.heap.size w w11) := HB10.out.trans (hb11.below (by omega) (by (try simp) <;> (try omega)))
  clear hb11
  clear HG510
  go_wp2_with fail
  refine (heldState_c a5 c5 R.length t1 v1 1 _ (HM11.out.slq fun _ => rfl) (by omega)).mono ?_
  rw [← HQR.out]
  rintro e w12 ⟨rfl, hb12⟩
  have hz12 := hb12.size
  have HG312 := Lib.hid (HG311.out.below hb12)
  clear HG311
  have HM12 := Lib.hid (HM11.out.below hb12)
  clear HM11
  have q12_0_0 : w12.cell? ⟨w.heap.size, 0, none⟩ = some (.int .i64 t) := by
    rw [hb12.cell (p := ⟨w.heap.size, 0, none⟩) (show w.heap.size < _ by (try simp) <;> (try omega))]
    exact q11_0_0
  have q12_0_1 : w12.cell? ⟨w.heap.size, 1, none⟩ = some (.int .i64 v) := by
    rw [hb12.cell (p := ⟨w.heap.size, 1, none⟩) (show w.heap.size < _ by (try simp) <;> (try omega))]
    exact q11_0_1
  have q12_0_2 : w12.cell? ⟨w.heap.size, 2, none⟩ = some (.slice a xs.length ca) := by
    rw [hb12.cell (p := ⟨w.heap.size, 2, none⟩) (show w.heap.size < _ by (try simp) <;> (try omega))]
    exact q11_0_2
  have hl12_0 : w.heap.size < w12.heap.size := by omega
  clear q11_0_0 q11_0_1 q11_0_2
  have q12_1_0 : w12.cell? ⟨w3.heap.size, 0, none⟩ = some (.int .i64 t1) := by
    rw [hb12.cell (p := ⟨w3.heap.size, 0, none⟩) (show w3.heap.size < _ by (try simp) <;> (try omega))]
    exact q11_1_0
  have q12_1_1 : w12.cell? ⟨w3.heap.size, 1, none⟩ = some (.int .i64 v1) := by
    rw [hb12.cell (p := ⟨w3.heap.size, 1, none⟩) (show w3.heap.size < _ by (try simp) <;> (try omega))]
    exact q11_1_1
  have q12_1_2 : w12.cell? ⟨w3.heap.size, 2, none⟩ = some (.slice a3 R.length c3) := by
    rw [hb12.cell (p := ⟨w3.heap.size, 2, none⟩) (show w3.heap.size < _ by (try simp) <;> (try omega))]
    exact q11_1_2
  have hl12_1 : w3.heap.size < w12.heap.size := by omega
  clear q11_1_0 q11_1_1 q11_1_2
  have q12_2_0 : w12.cell? ⟨w4.heap.size, 0, none⟩ = some (.int .i64 t) := by
    rw [hb12.cell (p := ⟨w4.heap.size, 0, none⟩) (show w4.heap.size < _ by (try simp) <;> (try omega))]
    exact q11_2_0
  have q12_2_1 : w12.cell? ⟨w4.heap.size, 1, none⟩ = some (.int .i64 v) := by
    rw [hb12.cell (p := ⟨w4.heap.size, 1, none⟩) (show w4.heap.size < _ by (try simp) <;> (try omega))]
    exact q11_2_1
  have q12_2_2 : w12.cell? ⟨w4.heap.size, 2, none⟩ = some (.slice a4 xs.length c4) := by
    rw [hb12.cell (p := ⟨w4.heap.size, 2, none⟩) (show w4.heap.size < _ by (try simp) <;> (try omega))]
    exact q11_2_2
  have hl12_2 : w4.heap.size < w12.heap.size := by omega
  clear q11_2_0 q11_2_1 q11_2_2
  have q12_3_0 : w12.cell? ⟨w5.heap.size, 0, none⟩ = some (.int .i64 t1) := by
    rw [hb12.cell (p := ⟨w5.heap.size, 0, none⟩) (show w5.heap.size < _ by (try simp) <;> (try omega))]
    exact q11_3_0
  have q12_3_1 : w12.cell? ⟨w5.heap.size, 1, none⟩ = some (.int .i64 v1) := by
    rw [hb12.cell (p := ⟨w5.heap.size, 1, none⟩) (show w5.heap.size < _ by (try simp) <;> (try omega))]
    exact q11_3_1
  have q12_3_2 : w12.cell? ⟨w5.heap.size, 2, none⟩ = some (.slice a5 R.length c5) := by
    rw [hb12.cell (p := ⟨w5.heap.size, 2, none⟩) (show w5.heap.size < _ by (try simp) <;> (try omega))]
    exact q11_3_2
  have hl12_3 : w5.heap.size < w12.heap.size := by omega
  clear q11_3_0 q11_3_1 q11_3_2
  have HB12 : Hid (Below w.heap.size w w12) := HB11.out.trans (hb12.mono (by (try simp) <;> (try omega)))
  clear hb12
  go_wp2_with fail
  refine (toState_c a ca xs t v _ (ha.keep HB12.out) lx).mono ?_
  rintro e w13 ⟨a13, c13, rfl, hf13, hb13⟩
  have hz13 := hb13.size
  have HX1313 := Lib.hid (show FreshIn entE 109 2 (w12.heap.size) w13.heap.size (.slice a13 xs.length c13) xs w13 from (by simpa using hf13.here))
  clear hf13
  have HG313 := Lib.hid (HG312.out.below hb13)
  clear HG312
  have HM13 := Lib.hid (HM12.out.below hb13)
  clear HM12
  have q13_0_0 : w13.cell? ⟨w.heap.size, 0, none⟩ = some (.int .i64 t) := by
    rw [hb13.cell (p := ⟨w.heap.size, 0, none⟩) (show w.heap.size < _ by (try simp) <;> (try omega))]
    exact q12_0_0
  have q13_0_1 : w13.cell? ⟨w.heap.size, 1, none⟩ = some (.int .i64 v) := by
    rw [hb13.cell (p := ⟨w.heap.size, 1, none⟩) (show w.heap.size < _ by (try simp) <;> (try omega))]
    exact q12_0_1
  have q13_0_2 : w13.cell? ⟨w.heap.size, 2, none⟩ = some (.slice a xs.length ca) := by
    rw [hb13.cell (p := ⟨w.heap.size, 2, none⟩) (show w.heap.size < _ by (try simp) <;> (try omega))]
    exact q12_0_2
  have hl13_0 : w.heap.size < w13.heap.size := by omega
  clear q12_0_0 q12_0_1 q12_0_2
  have q13_1_0 : w13.cell? ⟨w3.heap.size, 0, none⟩ = some (.int .i64 t1) := by
    rw [hb13.cell (p := ⟨w3.heap.size, 0, none⟩) (show w3.heap.size < _ by (try simp) <;> (try omega))]
    exact q12_1_0
  have q13_1_1 : w13.cell? ⟨w3.heap.size, 1, none⟩ = some (.int .i64 v1) := by
    rw [hb13.cell (p := ⟨w3.heap.size, 1, none⟩) (show w3.heap.size < _ by (try simp) <;> (try omega))]
    exact q12_1_1
  have q13_1_2 : w13.cell? ⟨w3.heap.size, 2, none⟩ = some (.slice a3 R.length c3) := by
    rw [hb13.cell (p := ⟨w3.heap.size, 2, none⟩) (show w3.heap.size < _ by (try simp) <;> (try omega))]
    exact q12_1_2
  have hl13_1 : w3.heap.size < w13.heap.size := by omega
  clear q12_1_0 q12_1_1 q12_1_2
  have q13_2_0 : w13.cell? ⟨w4.heap.size, 0, none⟩ = some (.int .i64 t) := by
    rw [hb13.cell (p := ⟨w4.heap.size, 0, none⟩) (show w4.heap.size < _ by (try simp) <;> (try omega))]
    exact q12_2_0
  have q13_2_1 : w13.cell? ⟨w4.heap.size, 1, none⟩ = some (.int .i64 v) := by
    rw [hb13.cell (p := ⟨w4.heap.size, 1, none⟩) (show w4.heap.size < _ by (try simp) <;> (try omega))]
    exact q12_2_1
  have q13_2_2 : w13.cell? ⟨w4.heap.size, 2, none⟩ = some (.slice a4 xs.length c4) := by
    rw [hb13.cell (p := ⟨w4.heap.size, 2, none⟩) (show w4.heap.size < _ by (try simp) <;> (try omega))]
    exact q12_2_2
  have hl13_2 : w4.heap.size < w13.heap.size := by omega
  clear q12_2_0 q12_2_1 q12_2_2
  have q13_3_0 : w13.cell? ⟨w5.heap.size, 0, none⟩ = some (.int .i64 t1) := by
    rw [hb13.cell (p := ⟨w5.heap.size, 0, none⟩) (show w5.heap.size < _ by (try simp) <;> (try omega))]
    exact q12_3_0
  have q13_3_1 : w13.cell? ⟨w5.heap.size, 1, none⟩ = some (.int .i64 v1) := by
    rw [hb13.cell (p := ⟨w5.heap.size, 1, none⟩) (show w5.heap.size < _ by (try simp) <;> (try omega))]
    exact q12_3_1
  have q13_3_2 : w13.cell? ⟨w5.heap.size, 2, none⟩ = some (.slice a5 R.length c5) := by
    rw [hb13.cell (p := ⟨w5.heap.size, 2, none⟩) (show w5.heap.size < _ by (try simp) <;> (try omega))]
    exact q12_3_2
  have hl13_3 : w5.heap.size < w13.heap.size := by omega
  clear q12_3_0 q12_3_1 q12_3_2
  have HB13 : Hid (Below w.heap.size w w13) := HB12.out.trans (hb13.mono (by (try simp) <;> (try omega)))
  clear hb13
  go_wp2_with fail
  refine (IP.out a13 c13 _ (HX1313.out.sl fun _ => rfl)).mono ?_
  rintro e w14 ⟨a14, c14, rfl, hf14, hb14⟩
  have hz14 := hb14.size
  have HG1414 := Lib.hid (show FreshIn entE 109 2 (w13.heap.size) w14.heap.size (.slice a14 R.length c14) R w14 from (by simpa using hf14.here))
  clear hf14
  have HG314 := Lib.hid (HG313.out.below hb14)
  clear HG313
  have HM14 := Lib.hid (HM13.out.below hb14)
  clear HM13
  have HX1314 := Lib.hid (HX1313.out.below hb14)
  clear HX1313
  have q14_0_0 : w14.cell? ⟨w.heap.size, 0, none⟩ = some (.int .i64 t) := by
    rw [hb14.cell (p := ⟨w.heap.size, 0, none⟩) (show w.heap.size < _ by (try simp) <;> (try omega))]
    exact q13_0_0
  have q14_0_1 : w14.cell? ⟨w.heap.size, 1, none⟩ = some (.int .i64 v) := by
    rw [hb14.cell (p := ⟨w.heap.size, 1, none⟩) (show w.heap.size < _ by (try simp) <;> (try omega))]
    exact q13_0_1
  have q14_0_2 : w14.cell? ⟨w.heap.size, 2, none⟩ = some (.slice a xs.length ca) := by
    rw [hb14.cell (p := ⟨w.heap.size, 2, none⟩) (show w.heap.size < _ by (try simp) <;> (try omega))]
    exact q13_0_2
  have hl14_0 : w.heap.size < w14.heap.size := by omega
  clear q13_0_0 q13_0_1 q13_0_2
  have q14_1_0 : w14.cell? ⟨w3.heap.size, 0, none⟩ = some (.int .i64 t1) := by
    rw [hb14.cell (p := ⟨w3.heap.size, 0, none⟩) (show w3.heap.size < _ by (try simp) <;> (try omega))]
    exact q13_1_0
  have q14_1_1 : w14.cell? ⟨w3.heap.size, 1, none⟩ = some (.int .i64 v1) := by
    rw [hb14.cell (p := ⟨w3.heap.size, 1, none⟩) (show w3.heap.size < _ by (try simp) <;> (try omega))]
    exact q13_1_1
  have q14_1_2 : w14.cell? ⟨w3.heap.size, 2, none⟩ = some (.slice a3 R.length c3) := by
    rw [hb14.cell (p := ⟨w3.heap.size, 2, none⟩) (show w3.heap.size < _ by (try simp) <;> (try omega))]
    exact q13_1_2
  have hl14_1 : w3.heap.size < w14.heap.size := by omega
  clear q13_1_0 q13_1_1 q13_1_2
  have q14_2_0 : w14.cell? ⟨w4.heap.size, 0, none⟩ = some (.int .i64 t) := by
    rw [hb14.cell (p := ⟨w4.heap.size, 0, none⟩) (show w4.heap.size < _ by (try simp) <;> (try omega))]
    exact q13_2_0
  have q14_2_1 : w14.cell? ⟨w4.heap.size, 1, none⟩ = some (.int .i64 v) := by
    rw [hb14.cell (p := ⟨w4.heap.size, 1, none⟩) (show w4.heap.size < _ by (try simp) <;> (try omega))]
    exact q13_2_1
  have q14_2_2 : w14.cell? ⟨w4.heap.size, 2, none⟩ = some (.slice a4 xs.length c4) := by
    rw [hb14.cell (p := ⟨w4.heap.size, 2, none⟩) (show w4.heap.size < _ by (try simp) <;> (try omega))]
    exact q13_2_2
  have hl14_2 : w4.heap.size < w14.heap.size := by omega
  clear q13_2_0 q13_2_1 q13_2_2
  have q14_3_0 : w14.cell? ⟨w5.heap.size, 0, none⟩ = some (.int .i64 t1) := by
    rw [hb14.cell (p := ⟨w5.heap.size, 0, none⟩) (show w5.heap.size < _ by (try simp) <;> (try omega))]
    exact q13_3_0
  have q14_3_1 : w14.cell? ⟨w5.heap.size, 1, none⟩ = some (.int .i64 v1) := by
    rw [hb14.cell (p := ⟨w5.heap.size, 1, none⟩) (show w5.heap.size < _ by (try simp) <;> (try omega))]
    exact q13_3_1
  have q14_3_2 : w14.cell? ⟨w5.heap.size, 2, none⟩ = some (.slice a5 R.length c5) := by
    rw [hb14.cell (p := ⟨w5.heap.size, 2, none⟩) (show w5.heap.size < _ by (try simp) <;> (try omega))]
    exact q13_3_2
  have hl14_3 : w5.heap.size < w14.heap.size := by omega
  clear q13_3_0 q13_3_1 q13_3_2
  have HB14 : Hid (Below w.heap.size w w14) := HB13.out.trans (hb14.mono (by (try simp) <;> (try omega)))
  clear hb14
  go_wp2_with fail
  refine (eqState_same a14 a3 c14 c3 R t1 v1 _ ((HG1414.out.alloc _).sl fun _ => rfl) ((HG314.out.alloc _).sl fun _ => rfl) (by omega)).mono ?_
  rintro e w15 ⟨rfl, hb15⟩
  have hz15 := hb15.size
  simp only [World.size_alloc] at hz15
  have HG315 := Lib.hid ((HG314.out.alloc _).below hb15)
  clear HG314
  have HM15 := Lib.hid ((HM14.out.alloc _).below hb15)
  clear HM14
  have HX1315 := Lib.hid ((HX1314.out.alloc _).below hb15)
  clear HX1314
  have HG1415 := Lib.hid ((HG1414.out.alloc _).below hb15)
  clear HG1414
  have q15_0_0 : w15.cell? ⟨w.heap.size, 0, none⟩ = some (.int .i64 t) := by
    rw [hb15.cell (p := ⟨w.heap.size, 0, none⟩) (show w.heap.size < _ by (try simp) <;> (try omega))]
    first | assumption | (simp [go_sem, *])
  have q15_0_1 : w15.cell? ⟨w.heap.size, 1, none⟩ = some (.int .i64 v) := by
    rw [hb15.cell (p := ⟨w.heap.size, 1, none⟩) (show w.heap.size < _ by (try simp) <;> (try omega))]
    first | assumption | (simp [go_sem, *])
  have q15_0_2 : w15.cell? ⟨w.heap.size, 2, none⟩ = some (.slice a xs.length ca) := by
    rw [hb15.cell (p := ⟨w.heap.size, 2, none⟩) (show w.heap.size < _ by (try simp) <;> (try omega))]
    first | assumption | (simp [go_sem, *])
  have hl15_0 : w.heap.size < w15.heap.size := by omega
  clear q14_0_0 q14_0_1 q14_0_2
  have q15_1_0 : w15.cell? ⟨w3.heap.size, 0, none⟩ = some (.int .i64 t1) := by
    rw [hb15.cell (p := ⟨w3.heap.size, 0, none⟩) (show w3.heap.size < _ by (try simp) <;> (try omega))]
    first | assumption | (simp [go_sem, *])
  have q15_1_1 : w15.cell? ⟨w3.heap.size, 1, none⟩ = some (.int .i64 v1) := by
    rw [hb15.cell (p := ⟨w3.heap.size, 1, none⟩) (show w3.heap.size < _ by (try simp) <;> (try omega))]
    first | assumption | (simp [go_sem, *])
  have q15_1_2 : w15.cell? ⟨w3.heap.size, 2, none⟩ = some (.slice a3 R.length c3) := by
    rw [hb15.cell (p := ⟨w3.heap.size, 2, none⟩) (show w3.heap.size < _ by (try simp) <;> (try omega))]
    first | assumption | (simp [go_sem, *])
  have hl15_1 : w3.heap.size < w15.heap.size := by omega
  clear q14_1_0 q14_1_1 q14_1_2
  have q15_2_0 : w15.cell? ⟨w4.heap.size, 0, none⟩ = some (.int .i64 t) := by
    rw [hb15.cell (p := ⟨w4.heap.size, 0, none⟩) (show w4.heap.size < _ by (try simp) <;> (try omega))]
    first | assumption | (simp [go_sem, *])
  have q15_2_1 : w15.cell? ⟨w4.heap.size, 1, none⟩ = some (.int .i64 v) := by
    rw [hb15.cell (p := ⟨w4.heap.size, 1, none⟩) (show w4.heap.size < _ by (try simp) <;> (try omega))]
    first | assumption | (simp [go_sem, *])
  have q15_2_2 : w15.cell? ⟨w4.heap.size, 2, none⟩ = some (.slice a4 xs.length c4) := by
    rw [hb15.cell (p := ⟨w4.heap.size, 2, none⟩) (show w4.heap.size < _ by (try simp) <;> (try omega))]
    first | assumption | (simp [go_sem, *])
  have hl15_2 : w4.heap.size < w15.heap.size := by omega
  clear q14_2_0 q14_2_1 q14_2_2
  have q15_3_0 : w15.cell? ⟨w5.heap.size, 0, none⟩ = some (.int .i64 t1) := by
    rw [hb15.cell (p := ⟨w5.heap.size, 0, none⟩) (show w5.heap.size < _ by (try simp) <;> (try omega))]
    first | assumption | (simp [go_sem, *])
  have q15_3_1 : w15.cell? ⟨w5.heap.size, 1, none⟩ = some (.int .i64 v1) := by
    rw [hb15.cell (p := ⟨w5.heap.size, 1, none⟩) (show w5.heap.size < _ by (try simp) <;> (try omega))]
    first | assumption | (simp [go_sem, *])
  have q15_3_2 : w15.cell? ⟨w5.heap.size, 2, none⟩ = some (.slice a5 R.length c5) := by
    rw [hb15.cell (p := ⟨w5.heap.size, 2, none⟩) (show w5.heap.size < _ by (try simp) <;> (try omega))]
    first | assumption | (simp [go_sem, *])
  have hl15_3 : w5.heap.size < w15.heap.size := by omega
  clear q14_3_0 q14_3_1 q14_3_2
  have q15_4_0 : w15.cell? ⟨w14.heap.size, 0, none⟩ = some (.int .i64 t1) := by
    rw [hb15.cell (p := ⟨w14.heap.size, 0, none⟩) (show w14.heap.size < _ by (try simp) <;> (try omega))]
    first | assumption | (simp [go_sem, *])
  have q15_4_1 : w15.cell? ⟨w14.heap.size, 1, none⟩ = some (.int .i64 v1) := by
    rw [hb15.cell (p := ⟨w14.heap.size, 1, none⟩) (show w14.heap.size < _ by (try simp) <;> (try omega))]
    first | assumption | (simp [go_sem, *])
  have q15_4_2 : w15.cell? ⟨w14.heap.size, 2, none⟩ = some (.slice a14 R.length c14) := by
    rw [hb15.cell (p := ⟨w14.heap.size, 2, none⟩) (show w14.heap.size < _ by (try simp) <;> (try omega))]
    first | assumption | (simp [go_sem, *])
  have hl15_4 : w14.heap.size < w15.heap.size := by omega
  have HB15 : Hid (Below w.heap.size w w15) := (HB14.out.alloc (by (try simp) <;> (try omega)) _).trans (hb15.mono (by (try simp) <;> (try omega)))
  clear hb15
  go_wp2_with fail
  refine (heldState_c a5 c5 R.length t1 v1 1 _ (HM15.out.slq fun _ => rfl) (by omega)).mono ?_
  rw [← HQR.out]
  rintro e w16 ⟨rfl, hb16⟩
  have hz16 := hb16.size
  have HG316 := Lib.hid (HG315.out.below hb16)
  clear HG315
  have HM16 := Lib.hid (HM15.out.below hb16)
  clear HM15
  have HX1316 := Lib.hid (HX1315.out.below hb16)
  clear HX1315
  have HG1416 := Lib.hid (HG1415.out.below hb16)
  clear HG1415
  have q16_0_0 : w16.cell? ⟨w.heap.size, 0, none⟩ = some (.int .i64 t) := by
    rw [hb16.cell (p := ⟨w.heap.size, 0, none⟩) (show w.heap.size < _ by (try simp) <;> (try omega))]
    exact q15_0_0
  have q16_0_1 : w16.cell? ⟨w.heap.size, 1, none⟩ = some (.int .i64 v) := by
    rw [hb16.cell (p := ⟨w.heap.size, 1, none⟩) (show w.heap.size < _ by (try simp) <;> (try omega))]
    exact q15_0_1
  have q16_0_2 : w16.cell? ⟨w.heap.size, 2, none⟩ = some (.slice a xs.length ca) := by
    rw [hb16.cell (p := ⟨w.heap.size, 2, none⟩) (show w.heap.size < _ by (try simp) <;> (try omega))]
    exact q15_0_2
  have hl16_0 : w.heap.size < w16.heap.size := by omega
  clear q15_0_0 q15_0_1 q15_0_2
  have q16_1_0 : w16.cell? ⟨w3.heap.size, 0, none⟩ = some (.int .i64 t1) := by
    rw [hb16.cell (p := ⟨w3.heap.size, 0, none⟩) (show w3.heap.size < _ by (try simp) <;> (try omega))]
    exact q15_1_0
  have q16_1_1 : w16.cell? ⟨w3.heap.size, 1, none⟩ = some (.int .i64 v1) := by
    rw [hb16.cell (p := ⟨w3.heap.size, 1, none⟩) (show w3.heap.size < _ by (try simp) <;> (try omega))]
    exact q15_1_1
  have q16_1_2 : w16.cell? ⟨w3.heap.size, 2, none⟩ = some (.slice a3 R.length c3) := by
    rw [hb16.cell (p := ⟨w3.heap.size, 2, none⟩) (show w3.heap.size < _ by (try simp) <;> (try omega))]
    exact q15_1_2
  have hl16_1 : w3.heap.size < w16.heap.size := by omega
  clear q15_1_0 q15_1_1 q15_1_2
  have q16_2_0 : w16.cell? ⟨w4.heap.size, 0, none⟩ = some (.int .i64 t) := by
    rw [hb16.cell (p := ⟨w4.heap.size, 0, none⟩) (show w4.heap.size < _ by (try simp) <;> (try omega))]
    exact q15_2_0
  have q16_2_1 : w16.cell? ⟨w4.heap.size, 1, none⟩ = some (.int .i64 v) := by
    rw [hb16.cell (p := ⟨w4.heap.size, 1, none⟩) (show w4.heap.size < _ by (try simp) <;> (try omega))]
    exact q15_2_1
  have q16_2_2 : w16.cell? ⟨w4.heap.size, 2, none⟩ = some (.slice a4 xs.length c4) := by
    rw [hb16.cell (p := ⟨w4.heap.size, 2, none⟩) (show w4.heap.size < _ by (try simp) <;> (try omega))]
    exact q15_2_2
  have hl16_2 : w4.heap.size < w16.heap.size := by omega
  clear q15_2_0 q15_2_1 q15_2_2
  have q16_3_0 : w16.cell? ⟨w5.heap.size, 0, none⟩ = some (.int .i64 t1) := by
    rw [hb16.cell (p := ⟨w5.heap.size, 0, none⟩) (show w5.heap.size < _ by (try simp) <;> (try omega))]
    exact q15_3_0
  have q16_3_1 : w16.cell? ⟨w5.heap.size, 1, none⟩ = some (.int .i64 v1) := by
    rw [hb16.cell (p := ⟨w5.heap.size, 1, none⟩) (show w5.heap.size < _ by (try simp) <;> (try omega))]
    exact q15_3_1
  have q16_3_2 : w16.cell? ⟨w5.heap.size, 2, none⟩ = some (.slice a5 R.length c5) := by
    rw [hb16.cell (p := ⟨w5.heap.size, 2, none⟩) (show w5.heap.size < _ by (try simp) <;> (try omega))]
    exact q15_3_2
  have hl16_3 : w5.heap.size < w16.heap.size := by omega
  clear q15_3_0 q15_3_1 q15_3_2
  have q16_4_0 : w16.cell? ⟨w14.heap.size, 0, none⟩ = some (.int .i64 t1) := by
    rw [hb16.cell (p := ⟨w14.heap.size, 0, none⟩) (show w14.heap.size < _ by (try simp) <;> (try omega))]
    exact q15_4_0
  have q16_4_1 : w16.cell? ⟨w14.heap.size, 1, none⟩ = some (.int .i64 v1) := by
    rw [hb16.cell (p := ⟨w14.heap.size, 1, none⟩) (show w14.heap.size < _ by (try simp) <;> (try omega))]
    exact q15_4_1
  have q16_4_2 : w16.cell? ⟨w14.heap.size, 2, none⟩ = some (.slice a14 R.length c14) := by
    rw [hb16.cell (p := ⟨w14.heap.size, 2, none⟩) (show w14.heap.size < _ by (try simp) <;> (try omega))]
    exact q15_4_2
  have hl16_4 : w14.heap.size < w16.heap.size := by omega
  clear q15_4_0 q15_4_1 q15_4_2
  have HB16 : Hid (Below w.heap.size w w16) := HB15.out.trans (hb16.mono (by (try simp) <;> (try omega)))
  clear hb16
  go_wp2_with fail
  go_ret
  exact ⟨rfl, HB16.out⟩
end Go.Proofs.Ytmdjcoeijlnloaa
