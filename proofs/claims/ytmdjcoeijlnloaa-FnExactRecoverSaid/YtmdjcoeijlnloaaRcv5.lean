/- The law FnExactRecover: its walk. -/
import Derived.Test.YtmdjcoeijlnloaaRcv4
import Derived.Test.YtmdjcoeijlnloaaMarkState
import Derived.Deep.RegionHeld3
namespace Go.Proofs.Ytmdjcoeijlnloaa
set_option linter.unusedVariables false
set_option linter.unusedSimpArgs false
open Go.RowKit
theorem FreshIn.slq {α : Type} {enc : α → List Value} {sz lo hi n ca : Nat} {f : Nat → α} {a : Option Addr} {e : TypeId} {w : World} (hs : ∀ x, (enc x).length = sz) (h : FreshIn enc e sz lo hi (.slice a n ca) ((List.range n).map f) w) : Sl enc sz w a ((List.range n).map f) := by
  have h' : FreshIn enc e sz lo hi (.slice a ((List.range n).map f).length ca) ((List.range n).map f) w := by simpa using h
  exact h'.sl hs
def RvE (t1 v1 : Int) (R : List Ent) (d1 : ByteArray) (n1 c : Int) (w : World) (e : Ending) (w' : World) : Prop :=
  ∃ a ca, e = .returned (.tuple #[.agg #[.int .i64 t1, .int .i64 v1, .slice a R.length ca], .agg #[.string d1, .int .i64 n1], .int .i64 c]) ∧ Fresh entE 109 2 w.heap.size (.slice a R.length ca) R w' ∧ Below w.heap.size w w'
set_option maxRecDepth 100000 in
set_option maxHeartbeats 16000000 in
theorem lawRecover_c (d : ByteArray) (s : Int) (w : World) (hd : d.size ≤ 9223372036854775807) :
    Calls Try.prog 6 #[.agg #[.string d, .int .i64 s]] w fun e w' => e = .returned (.bool true) ∧ Below w.heap.size w w' := by
  obtain ⟨o, ho⟩ : ∃ o, o = rcO d s := ⟨_, rfl⟩
  have hcl : o.1.2.2.length ≤ 60 := by rw [ho]; exact rcO_length _ _
  have SP : Hid (∀ (w : World), Calls Try.prog 29 #[.agg #[.string d, .int .i64 s]] w (RvE o.1.1 o.1.2.1 o.1.2.2 o.2.1.1 o.2.1.2 o.2.2 w)) := Lib.hid (fun w => by
    rw [ho]
    exact specRecover_c d s w)
  have IP : Hid (∀ (w : World), Calls Try.prog 31 #[.agg #[.string d, .int .i64 s]] w (RvE o.1.1 o.1.2.1 o.1.2.2 o.2.1.1 o.2.1.2 o.2.2 w)) := Lib.hid (fun w => by
    rw [ho]
    exact implRecover_c d s w)
  clear ho
  obtain ⟨⟨t1, v1, R⟩, ⟨d1, n1⟩, C⟩ := o
  dsimp only at hcl SP IP
  go_enter Try.func6, Try.ntmps6
  go_wp2_with fail
  refine (szStore_c d s _ _ (by omega) (by omega) hd).mono ?_
  rintro e w1 ⟨⟨n, rfl, hn, himp⟩, hb1⟩
  have hz1 := hb1.size
  simp only [World.size_alloc] at hz1
  clear himp
  have q1_0_0 : w1.cell? ⟨w.heap.size, 0, none⟩ = some (.string d) := by
    rw [hb1.cell (p := ⟨w.heap.size, 0, none⟩) (show w.heap.size < _ by (try simp) <;> (try omega))]
    first | assumption | (simp [go_sem, *])
  have q1_0_1 : w1.cell? ⟨w.heap.size, 1, none⟩ = some (.int .i64 s) := by
    rw [hb1.cell (p := ⟨w.heap.size, 1, none⟩) (show w.heap.size < _ by (try simp) <;> (try omega))]
    first | assumption | (simp [go_sem, *])
  have hl1_0 : w.heap.size < w1.heap.size := by omega
  have HB1 : Hid (Below w.heap.size w w1) := ((Below.refl w.heap.size w).alloc (by (try simp) <;> (try omega)) _).trans (hb1.mono (by (try simp) <;> (try omega)))
  clear hb1
  by_cases hneg : n < 0
  · go_wp2_with fail
    go_ret
    exact ⟨rfl, HB1.out⟩
  go_wp2_with fail
  refine (toStore_c d s _).mono ?_
  rintro e w2 ⟨rfl, hb2⟩
  have hz2 := hb2.size
  have q2_0_0 : w2.cell? ⟨w.heap.size, 0, none⟩ = some (.string d) := by
    rw [hb2.cell (p := ⟨w.heap.size, 0, none⟩) (show w.heap.size < _ by (try simp) <;> (try omega))]
    exact q1_0_0
  have q2_0_1 : w2.cell? ⟨w.heap.size, 1, none⟩ = some (.int .i64 s) := by
    rw [hb2.cell (p := ⟨w.heap.size, 1, none⟩) (show w.heap.size < _ by (try simp) <;> (try omega))]
    exact q1_0_1
  have hl2_0 : w.heap.size < w2.heap.size := by omega
  clear q1_0_0 q1_0_1
  have HB2 : Hid (Below w.heap.size w w2) := HB1.out.trans (hb2.mono (by (try simp) <;> (try omega)))
  clear hb2
  go_wp2_with fail
  refine (SP.out _).mono ?_
  rintro e w3 ⟨a3, c3, rfl, hf3, hb3⟩
  have hz3 := hb3.size
  have HG33 := Lib.hid (show FreshIn entE 109 2 (w2.heap.size) w3.heap.size (.slice a3 R.length c3) R w3 from (by simpa using hf3.here))
  clear hf3
  have q3_0_0 : w3.cell? ⟨w.heap.size, 0, none⟩ = some (.string d) := by
    rw [hb3.cell (p := ⟨w.heap.size, 0, none⟩) (show w.heap.size < _ by (try simp) <;> (try omega))]
    exact q2_0_0
  have q3_0_1 : w3.cell? ⟨w.heap.size, 1, none⟩ = some (.int .i64 s) := by
    rw [hb3.cell (p := ⟨w.heap.size, 1, none⟩) (show w.heap.size < _ by (try simp) <;> (try omega))]
    exact q2_0_1
  have hl3_0 : w.heap.size < w3.heap.size := by omega
  clear q2_0_0 q2_0_1
  have HB3 : Hid (Below w.heap.size w w3) := HB2.out.trans (hb3.mono (by (try simp) <;> (try omega)))
  clear hb3
  go_wp2_with fail
  refine (toStore_c d s _).mono ?_
  rintro e w4 ⟨rfl, hb4⟩
  have hz4 := hb4.size
  simp only [World.size_alloc] at hz4
  have HG34 := Lib.hid (((HG33.out.alloc _).alloc _).below hb4)
  clear HG33
  have q4_0_0 : w4.cell? ⟨w.heap.size, 0, none⟩ = some (.string d) := by
    rw [hb4.cell (p := ⟨w.heap.size, 0, none⟩) (show w.heap.size < _ by (try simp) <;> (try omega))]
    first | assumption | (simp [go_sem, *])
  have q4_0_1 : w4.cell? ⟨w.heap.size, 1, none⟩ = some (.int .i64 s) := by
    rw [hb4.cell (p := ⟨w.heap.size, 1, none⟩) (show w.heap.size < _ by (try simp) <;> (try omega))]
    first | assumption | (simp [go_sem, *])
  have hl4_0 : w.heap.size < w4.heap.size := by omega
  clear q3_0_0 q3_0_1
  have q4_1_0 : w4.cell? ⟨w3.heap.size, 0, none⟩ = some (.int .i64 t1) := by
    rw [hb4.cell (p := ⟨w3.heap.size, 0, none⟩) (show w3.heap.size < _ by (try simp) <;> (try omega))]
    first | assumption | (simp [go_sem, *])
  have q4_1_1 : w4.cell? ⟨w3.heap.size, 1, none⟩ = some (.int .i64 v1) := by
    rw [hb4.cell (p := ⟨w3.heap.size, 1, none⟩) (show w3.heap.size < _ by (try simp) <;> (try omega))]
    first | assumption | (simp [go_sem, *])
  have q4_1_2 : w4.cell? ⟨w3.heap.size, 2, none⟩ = some (.slice a3 R.length c3) := by
    rw [hb4.cell (p := ⟨w3.heap.size, 2, none⟩) (show w3.heap.size < _ by (try simp) <;> (try omega))]
    first | assumption | (simp [go_sem, *])
  have hl4_1 : w3.heap.size < w4.heap.size := by omega
  have q4_2_0 : w4.cell? ⟨w3.heap.size + 1, 0, none⟩ = some (.string d1) := by
    rw [hb4.cell (p := ⟨w3.heap.size + 1, 0, none⟩) (show w3.heap.size + 1 < _ by (try simp) <;> (try omega))]
    first | assumption | (simp [go_sem, *])
  have q4_2_1 : w4.cell? ⟨w3.heap.size + 1, 1, none⟩ = some (.int .i64 n1) := by
    rw [hb4.cell (p := ⟨w3.heap.size + 1, 1, none⟩) (show w3.heap.size + 1 < _ by (try simp) <;> (try omega))]
    first | assumption | (simp [go_sem, *])
  have hl4_2 : w3.heap.size + 1 < w4.heap.size := by omega
  have HB4 : Hid (Below w.heap.size w w4) := ((HB3.out.alloc (by (try simp) <;> (try omega)) _).alloc (by (try simp) <;> (try omega)) _).trans (hb4.mono (by (try simp) <;> (try omega)))
  clear hb4
  go_wp2_with fail
  refine (IP.out _).mono ?_
  rintro e w5 ⟨a5, c5, rfl, hf5, hb5⟩
  have hz5 := hb5.size
  have HG55 := Lib.hid (show FreshIn entE 109 2 (w4.heap.size) w5.heap.size (.slice a5 R.length c5) R w5 from (by simpa using hf5.here))
  clear hf5
  have HG35 := Lib.hid (HG34.out.below hb5)
  clear HG34
  have q5_0_0 : w5.cell? ⟨w.heap.size, 0, none⟩ = some (.string d) := by
    rw [hb5.cell (p := ⟨w.heap.size, 0, none⟩) (show w.heap.size < _ by (try simp) <;> (try omega))]
    exact q4_0_0
  have q5_0_1 : w5.cell? ⟨w.heap.size, 1, none⟩ = some (.int .i64 s) := by
    rw [hb5.cell (p := ⟨w.heap.size, 1, none⟩) (show w.heap.size < _ by (try simp) <;> (try omega))]
    exact q4_0_1
  have hl5_0 : w.heap.size < w5.heap.size := by omega
  clear q4_0_0 q4_0_1
  have q5_1_0 : w5.cell? ⟨w3.heap.size, 0, none⟩ = some (.int .i64 t1) := by
    rw [hb5.cell (p := ⟨w3.heap.size, 0, none⟩) (show w3.heap.size < _ by (try simp) <;> (try omega))]
    exact q4_1_0
  have q5_1_1 : w5.cell? ⟨w3.heap.size, 1, none⟩ = some (.int .i64 v1) := by
    rw [hb5.cell (p := ⟨w3.heap.size, 1, none⟩) (show w3.heap.size < _ by (try simp) <;> (try omega))]
    exact q4_1_1
  have q5_1_2 : w5.cell? ⟨w3.heap.size, 2, none⟩ = some (.slice a3 R.length c3) := by
    rw [hb5.cell (p := ⟨w3.heap.size, 2, none⟩) (show w3.heap.size < _ by (try simp) <;> (try omega))]
    exact q4_1_2
  have hl5_1 : w3.heap.size < w5.heap.size := by omega
  clear q4_1_0 q4_1_1 q4_1_2
  have q5_2_0 : w5.cell? ⟨w3.heap.size + 1, 0, none⟩ = some (.string d1) := by
    rw [hb5.cell (p := ⟨w3.heap.size + 1, 0, none⟩) (show w3.heap.size + 1 < _ by (try simp) <;> (try omega))]
    exact q4_2_0
  have q5_2_1 : w5.cell? ⟨w3.heap.size + 1, 1, none⟩ = some (.int .i64 n1) := by
    rw [hb5.cell (p := ⟨w3.heap.size + 1, 1, none⟩) (show w3.heap.size + 1 < _ by (try simp) <;> (try omega))]
    exact q4_2_1
  have hl5_2 : w3.heap.size + 1 < w5.heap.size := by omega
  clear q4_2_0 q4_2_1
  have HB5 : Hid (Below w.heap.size w w5) := HB4.out.trans (hb5.mono (by (try simp) <;> (try omega)))
  clear hb5
  go_wp2_with fail
  refine (eqState_same a5 a3 c5 c3 R t1 v1 _ (((HG55.out.alloc _).alloc _).sl fun _ => rfl) (((HG35.out.alloc _).alloc _).sl fun _ => rfl) (by omega)).mono ?_
  rintro e w6 ⟨rfl, hb6⟩
  have hz6 := hb6.size
  simp only [World.size_alloc] at hz6
  have HG36 := Lib.hid (((HG35.out.alloc _).alloc _).below hb6)
  clear HG35
  have HG56 := Lib.hid (((HG55.out.alloc _).alloc _).below hb6)
  clear HG55
  have q6_0_0 : w6.cell? ⟨w.heap.size, 0, none⟩ = some (.string d) := by
    rw [hb6.cell (p := ⟨w.heap.size, 0, none⟩) (show w.heap.size < _ by (try simp) <;> (try omega))]
    first | assumption | (simp [go_sem, *])
  have q6_0_1 : w6.cell? ⟨w.heap.size, 1, none⟩ = some (.int .i64 s) := by
    rw [hb6.cell (p := ⟨w.heap.size, 1, none⟩) (show w.heap.size < _ by (try simp) <;> (try omega))]
    first | assumption | (simp [go_sem, *])
  have hl6_0 : w.heap.size < w6.heap.size := by omega
  clear q5_0_0 q5_0_1
  have q6_1_0 : w6.cell? ⟨w3.heap.size, 0, none⟩ = some (.int .i64 t1) := by
    rw [hb6.cell (p := ⟨w3.heap.size, 0, none⟩) (show w3.heap.size < _ by (try simp) <;> (try omega))]
    first | assumption | (simp [go_sem, *])
  have q6_1_1 : w6.cell? ⟨w3.heap.size, 1, none⟩ = some (.int .i64 v1) := by
    rw [hb6.cell (p := ⟨w3.heap.size, 1, none⟩) (show w3.heap.size < _ by (try simp) <;> (try omega))]
    first | assumption | (simp [go_sem, *])
  have q6_1_2 : w6.cell? ⟨w3.heap.size, 2, none⟩ = some (.slice a3 R.length c3) := by
    rw [hb6.cell (p := ⟨w3.heap.size, 2, none⟩) (show w3.heap.size < _ by (try simp) <;> (try omega))]
    first | assumption | (simp [go_sem, *])
  have hl6_1 : w3.heap.size < w6.heap.size := by omega
  clear q5_1_0 q5_1_1 q5_1_2
  have q6_2_0 : w6.cell? ⟨w3.heap.size + 1, 0, none⟩ = some (.string d1) := by
    rw [hb6.cell (p := ⟨w3.heap.size + 1, 0, none⟩) (show w3.heap.size + 1 < _ by (try simp) <;> (try omega))]
    first | assumption | (simp [go_sem, *])
  have q6_2_1 : w6.cell? ⟨w3.heap.size + 1, 1, none⟩ = some (.int .i64 n1) := by
    rw [hb6.cell (p := ⟨w3.heap.size + 1, 1, none⟩) (show w3.heap.size + 1 < _ by (try simp) <;> (try omega))]
    first | assumption | (simp [go_sem, *])
  have hl6_2 : w3.heap.size + 1 < w6.heap.size := by omega
  clear q5_2_0 q5_2_1
  have q6_3_0 : w6.cell? ⟨w5.heap.size, 0, none⟩ = some (.int .i64 t1) := by
    rw [hb6.cell (p := ⟨w5.heap.size, 0, none⟩) (show w5.heap.size < _ by (try simp) <;> (try omega))]
    first | assumption | (simp [go_sem, *])
  have q6_3_1 : w6.cell? ⟨w5.heap.size, 1, none⟩ = some (.int .i64 v1) := by
    rw [hb6.cell (p := ⟨w5.heap.size, 1, none⟩) (show w5.heap.size < _ by (try simp) <;> (try omega))]
    first | assumption | (simp [go_sem, *])
  have q6_3_2 : w6.cell? ⟨w5.heap.size, 2, none⟩ = some (.slice a5 R.length c5) := by
    rw [hb6.cell (p := ⟨w5.heap.size, 2, none⟩) (show w5.heap.size < _ by (try simp) <;> (try omega))]
    first | assumption | (simp [go_sem, *])
  have hl6_3 : w5.heap.size < w6.heap.size := by omega
  have q6_4_0 : w6.cell? ⟨w5.heap.size + 1, 0, none⟩ = some (.string d1) := by
    rw [hb6.cell (p := ⟨w5.heap.size + 1, 0, none⟩) (show w5.heap.size + 1 < _ by (try simp) <;> (try omega))]
    first | assumption | (simp [go_sem, *])
  have q6_4_1 : w6.cell? ⟨w5.heap.size + 1, 1, none⟩ = some (.int .i64 n1) := by
    rw [hb6.cell (p := ⟨w5.heap.size + 1, 1, none⟩) (show w5.heap.size + 1 < _ by (try simp) <;> (try omega))]
    first | assumption | (simp [go_sem, *])
  have hl6_4 : w5.heap.size + 1 < w6.heap.size := by omega
  have HB6 : Hid (Below w.heap.size w w6) := ((HB5.out.alloc (by (try simp) <;> (try omega)) _).alloc (by (try simp) <;> (try omega)) _).trans (hb6.mono (by (try simp) <;> (try omega)))
  clear hb6
  go_wp2_with fail
  refine (eqStore_c d1 d1 n1 n1 _).mono ?_
  simp only [decide_true, Bool.and_self]
  rintro e w7 ⟨rfl, hb7⟩
  have hz7 := hb7.size
  have HG37 := Lib.hid (HG36.out.below hb7)
  clear HG36
  have HG57 := Lib.hid (HG56.out.below hb7)
  clear HG56
  have q7_0_0 : w7.cell? ⟨w.heap.size, 0, none⟩ = some (.string d) := by
    rw [hb7.cell (p := ⟨w.heap.size, 0, none⟩) (show w.heap.size < _ by (try simp) <;> (try omega))]
    exact q6_0_0
  have q7_0_1 : w7.cell? ⟨w.heap.size, 1, none⟩ = some (.int .i64 s) := by
    rw [hb7.cell (p := ⟨w.heap.size, 1, none⟩) (show w.heap.size < _ by (try simp) <;> (try omega))]
    exact q6_0_1
  have hl7_0 : w.heap.size < w7.heap.size := by omega
  clear q6_0_0 q6_0_1
  have q7_1_0 : w7.cell? ⟨w3.heap.size, 0, none⟩ = some (.int .i64 t1) := by
    rw [hb7.cell (p := ⟨w3.heap.size, 0, none⟩) (show w3.heap.size < _ by (try simp) <;> (try omega))]
    exact q6_1_0
  have q7_1_1 : w7.cell? ⟨w3.heap.size, 1, none⟩ = some (.int .i64 v1) := by
    rw [hb7.cell (p := ⟨w3.heap.size, 1, none⟩) (show w3.heap.size < _ by (try simp) <;> (try omega))]
    exact q6_1_1
  have q7_1_2 : w7.cell? ⟨w3.heap.size, 2, none⟩ = some (.slice a3 R.length c3) := by
    rw [hb7.cell (p := ⟨w3.heap.size, 2, none⟩) (show w3.heap.size < _ by (try simp) <;> (try omega))]
    exact q6_1_2
  have hl7_1 : w3.heap.size < w7.heap.size := by omega
  clear q6_1_0 q6_1_1 q6_1_2
  have q7_2_0 : w7.cell? ⟨w3.heap.size + 1, 0, none⟩ = some (.string d1) := by
    rw [hb7.cell (p := ⟨w3.heap.size + 1, 0, none⟩) (show w3.heap.size + 1 < _ by (try simp) <;> (try omega))]
    exact q6_2_0
  have q7_2_1 : w7.cell? ⟨w3.heap.size + 1, 1, none⟩ = some (.int .i64 n1) := by
    rw [hb7.cell (p := ⟨w3.heap.size + 1, 1, none⟩) (show w3.heap.size + 1 < _ by (try simp) <;> (try omega))]
    exact q6_2_1
  have hl7_2 : w3.heap.size + 1 < w7.heap.size := by omega
  clear q6_2_0 q6_2_1
  have q7_3_0 : w7.cell? ⟨w5.heap.size, 0, none⟩ = some (.int .i64 t1) := by
    rw [hb7.cell (p := ⟨w5.heap.size, 0, none⟩) (show w5.heap.size < _ by (try simp) <;> (try omega))]
    exact q6_3_0
  have q7_3_1 : w7.cell? ⟨w5.heap.size, 1, none⟩ = some (.int .i64 v1) := by
    rw [hb7.cell (p := ⟨w5.heap.size, 1, none⟩) (show w5.heap.size < _ by (try simp) <;> (try omega))]
    exact q6_3_1
  have q7_3_2 : w7.cell? ⟨w5.heap.size, 2, none⟩ = some (.slice a5 R.length c5) := by
    rw [hb7.cell (p := ⟨w5.heap.size, 2, none⟩) (show w5.heap.size < _ by (try simp) <;> (try omega))]
    exact q6_3_2
  have hl7_3 : w5.heap.size < w7.heap.size := by omega
  clear q6_3_0 q6_3_1 q6_3_2
  have q7_4_0 : w7.cell? ⟨w5.heap.size + 1, 0, none⟩ = some (.string d1) := by
    rw [hb7.cell (p := ⟨w5.heap.size + 1, 0, none⟩) (show w5.heap.size + 1 < _ by (try simp) <;> (try omega))]
    exact q6_4_0
  have q7_4_1 : w7.cell? ⟨w5.heap.size + 1, 1, none⟩ = some (.int .i64 n1) := by
    rw [hb7.cell (p := ⟨w5.heap.size + 1, 1, none⟩) (show w5.heap.size + 1 < _ by (try simp) <;> (try omega))]
    exact q6_4_1
  have hl7_4 : w5.heap.size + 1 < w7.heap.size := by omega
  clear q6_4_0 q6_4_1
  have HB7 : Hid (Below w.heap.size w w7) := HB6.out.trans (hb7.mono (by (try simp) <;> (try omega)))
  clear hb7
  obtain ⟨QR, hQR⟩ : ∃ x, x = 1 + 2 * R.length := ⟨_, rfl⟩
  have HQR := Lib.hid hQR
  have hqr : QR ≤ 121 := by omega
  clear hQR
  go_wp2_with fail
  refine (markState_c a5 c5 R t1 v1 1 (w4.heap.size) (w5.heap.size) _ HG57.out (by omega) (by omega) (by omega)).mono ?_
  unfold MarkRF
  rw [← HQR.out]
  rintro e w8 ⟨rfl, hf8, hb8⟩
  have hz8 := hb8.size
  have HM8 := Lib.hid hf8
  clear hf8
  have HG38 := Lib.hid (HG37.out.mid hb8 (by omega))
  clear HG37
  have q8_0_0 : w8.cell? ⟨w.heap.size, 0, none⟩ = some (.string d) := by
    rw [hb8.cell (p := ⟨w.heap.size, 0, none⟩) (show w.heap.size < _ by (try simp) <;> (try omega)) (by show w.heap.size < _ ∨ _ ≤ w.heap.size; omega)]
    exact q7_0_0
  have q8_0_1 : w8.cell? ⟨w.heap.size, 1, none⟩ = some (.int .i64 s) := by
    rw [hb8.cell (p := ⟨w.heap.size, 1, none⟩) (show w.heap.size < _ by (try simp) <;> (try omega)) (by show w.heap.size < _ ∨ _ ≤ w.heap.size; omega)]
    exact q7_0_1
  have hl8_0 : w.heap.size < w8.heap.size := by omega
  clear q7_0_0 q7_0_1
  have q8_1_0 : w8.cell? ⟨w3.heap.size, 0, none⟩ = some (.int .i64 t1) := by
    rw [hb8.cell (p := ⟨w3.heap.size, 0, none⟩) (show w3.heap.size < _ by (try simp) <;> (try omega)) (by show w3.heap.size < _ ∨ _ ≤ w3.heap.size; omega)]
    exact q7_1_0
  have q8_1_1 : w8.cell? ⟨w3.heap.size, 1, none⟩ = some (.int .i64 v1) := by
    rw [hb8.cell (p := ⟨w3.heap.size, 1, none⟩) (show w3.heap.size < _ by (try simp) <;> (try omega)) (by show w3.heap.size < _ ∨ _ ≤ w3.heap.size; omega)]
    exact q7_1_1
  have q8_1_2 : w8.cell? ⟨w3.heap.size, 2, none⟩ = some (.slice a3 R.length c3) := by
    rw [hb8.cell (p := ⟨w3.heap.size, 2, none⟩) (show w3.heap.size < _ by (try simp) <;> (try omega)) (by show w3.heap.size < _ ∨ _ ≤ w3.heap.size; omega)]
    exact q7_1_2
  have hl8_1 : w3.heap.size < w8.heap.size := by omega
  clear q7_1_0 q7_1_1 q7_1_2
  have q8_2_0 : w8.cell? ⟨w3.heap.size + 1, 0, none⟩ = some (.string d1) := by
    rw [hb8.cell (p := ⟨w3.heap.size + 1, 0, none⟩) (show w3.heap.size + 1 < _ by (try simp) <;> (try omega)) (by show w3.heap.size + 1 < _ ∨ _ ≤ w3.heap.size + 1; omega)]
    exact q7_2_0
  have q8_2_1 : w8.cell? ⟨w3.heap.size + 1, 1, none⟩ = some (.int .i64 n1) := by
    rw [hb8.cell (p := ⟨w3.heap.size + 1, 1, none⟩) (show w3.heap.size + 1 < _ by (try simp) <;> (try omega)) (by show w3.heap.size + 1 < _ ∨ _ ≤ w3.heap.size + 1; omega)]
    exact q7_2_1
  have hl8_2 : w3.heap.size + 1 < w8.heap.size := by omega
  clear q7_2_0 q7_2_1
  have q8_3_0 : w8.cell? ⟨w5.heap.size, 0, none⟩ = some (.int .i64 t1) := by
    rw [hb8.cell (p := ⟨w5.heap.size, 0, none⟩) (show w5.heap.size < _ by (try simp) <;> (try omega)) (by show w5.heap.size < _ ∨ _ ≤ w5.heap.size; omega)]
    exact q7_3_0
  have q8_3_1 : w8.cell? ⟨w5.heap.size, 1, none⟩ = some (.int .i64 v1) := by
    rw [hb8.cell (p := ⟨w5.heap.size, 1, none⟩) (show w5.heap.size < _ by (try simp) <;> (try omega)) (by show w5.heap.size < _ ∨ _ ≤ w5.heap.size; omega)]
    exact q7_3_1
  have q8_3_2 : w8.cell? ⟨w5.heap.size, 2, none⟩ = some (.slice a5 R.length c5) := by
    rw [hb8.cell (p := ⟨w5.heap.size, 2, none⟩) (show w5.heap.size < _ by (try simp) <;> (try omega)) (by show w5.heap.size < _ ∨ _ ≤ w5.heap.size; omega)]
    exact q7_3_2
  have hl8_3 : w5.heap.size < w8.heap.size := by omega
  clear q7_3_0 q7_3_1 q7_3_2
  have q8_4_0 : w8.cell? ⟨w5.heap.size + 1, 0, none⟩ = some (.string d1) := by
    rw [hb8.cell (p := ⟨w5.heap.size + 1, 0, none⟩) (show w5.heap.size + 1 < _ by (try simp) <;> (try omega)) (by show w5.heap.size + 1 < _ ∨ _ ≤ w5.heap.size + 1; omega)]
    exact q7_4_0
  have q8_4_1 : w8.cell? ⟨w5.heap.size + 1, 1, none⟩ = some (.int .i64 n1) := by
    rw [hb8.cell (p := ⟨w5.heap.size + 1, 1, none⟩) (show w5.heap.size + 1 < _ by (try simp) <;> (try omega)) (by show w5.heap.size + 1 < _ ∨ _ ≤ w5.heap.size + 1; omega)]
    exact q7_4_1
  have hl8_4 : w5.heap.size + 1 < w8.heap.size := by omega
  clear q7_4_0 q7_4_1
  have HB8 : Hid (Below w.heap.size w w8) := HB7.out.trans (hb8.below (by omega) (by (try simp) <;> (try omega)))
  clear hb8
  clear HG57
  go_wp2_with fail
  refine (heldState_c a5 c5 R.length t1 v1 1 _ (HM8.out.slq fun _ => rfl) (by omega)).mono ?_
  rw [← HQR.out]
  rintro e w9 ⟨rfl, hb9⟩
  have hz9 := hb9.size
  have HG39 := Lib.hid (HG38.out.below hb9)
  clear HG38
  have HM9 := Lib.hid (HM8.out.below hb9)
  clear HM8
  have q9_0_0 : w9.cell? ⟨w.heap.size, 0, none⟩ = some (.string d) := by
    rw [hb9.cell (p := ⟨w.heap.size, 0, none⟩) (show w.heap.size < _ by (try simp) <;> (try omega))]
    exact q8_0_0
  have q9_0_1 : w9.cell? ⟨w.heap.size, 1, none⟩ = some (.int .i64 s) := by
    rw [hb9.cell (p := ⟨w.heap.size, 1, none⟩) (show w.heap.size < _ by (try simp) <;> (try omega))]
    exact q8_0_1
  have hl9_0 : w.heap.size < w9.heap.size := by omega
  clear q8_0_0 q8_0_1
  have q9_1_0 : w9.cell? ⟨w3.heap.size, 0, none⟩ = some (.int .i64 t1) := by
    rw [hb9.cell (p := ⟨w3.heap.size, 0, none⟩) (show w3.heap.size < _ by (try simp) <;> (try omega))]
    exact q8_1_0
  have q9_1_1 : w9.cell? ⟨w3.heap.size, 1, none⟩ = some (.int .i64 v1) := by
    rw [hb9.cell (p := ⟨w3.heap.size, 1, none⟩) (show w3.heap.size < _ by (try simp) <;> (try omega))]
    exact q8_1_1
  have q9_1_2 : w9.cell? ⟨w3.heap.size, 2, none⟩ = some (.slice a3 R.length c3) := by
    rw [hb9.cell (p := ⟨w3.heap.size, 2, none⟩) (show w3.heap.size < _ by (try simp) <;> (try omega))]
    exact q8_1_2
  have hl9_1 : w3.heap.size < w9.heap.size := by omega
  clear q8_1_0 q8_1_1 q8_1_2
  have q9_2_0 : w9.cell? ⟨w3.heap.size + 1, 0, none⟩ = some (.string d1) := by
    rw [hb9.cell (p := ⟨w3.heap.size + 1, 0, none⟩) (show w3.heap.size + 1 < _ by (try simp) <;> (try omega))]
    exact q8_2_0
  have q9_2_1 : w9.cell? ⟨w3.heap.size + 1, 1, none⟩ = some (.int .i64 n1) := by
    rw [hb9.cell (p := ⟨w3.heap.size + 1, 1, none⟩) (show w3.heap.size + 1 < _ by (try simp) <;> (try omega))]
    exact q8_2_1
  have hl9_2 : w3.heap.size + 1 < w9.heap.size := by omega
  clear q8_2_0 q8_2_1
  have q9_3_0 : w9.cell? ⟨w5.heap.size, 0, none⟩ = some (.int .i64 t1) := by
    rw [hb9.cell (p := ⟨w5.heap.size, 0, none⟩) (show w5.heap.size < _ by (try simp) <;> (try omega))]
    exact q8_3_0
  have q9_3_1 : w9.cell? ⟨w5.heap.size, 1, none⟩ = some (.int .i64 v1) := by
    rw [hb9.cell (p := ⟨w5.heap.size, 1, none⟩) (show w5.heap.size < _ by (try simp) <;> (try omega))]
    exact q8_3_1
  have q9_3_2 : w9.cell? ⟨w5.heap.size, 2, none⟩ = some (.slice a5 R.length c5) := by
    rw [hb9.cell (p := ⟨w5.heap.size, 2, none⟩) (show w5.heap.size < _ by (try simp) <;> (try omega))]
    exact q8_3_2
  have hl9_3 : w5.heap.size < w9.heap.size := by omega
  clear q8_3_0 q8_3_1 q8_3_2
  have q9_4_0 : w9.cell? ⟨w5.heap.size + 1, 0, none⟩ = some (.string d1) := by
    rw [hb9.cell (p := ⟨w5.heap.size + 1, 0, none⟩) (show w5.heap.size + 1 < _ by (try simp) <;> (try omega))]
    exact q8_4_0
  have q9_4_1 : w9.cell? ⟨w5.heap.size + 1, 1, none⟩ = some (.int .i64 n1) := by
    rw [hb9.cell (p := ⟨w5.heap.size + 1, 1, none⟩) (show w5.heap.size + 1 < _ by (try simp) <;> (try omega))]
    exact q8_4_1
  have hl9_4 : w5.heap.size + 1 < w9.heap.size := by omega
  clear q8_4_0 q8_4_1
  have HB9 : Hid (Below w.heap.size w w9) := HB8.out.trans (hb9.mono (by (try simp) <;> (try omega)))
  clear hb9
  go_wp2_with fail
  refine (toStore_c d s _).mono ?_
  rintro e w10 ⟨rfl, hb10⟩
  have hz10 := hb10.size
  have HG310 := Lib.hid (HG39.out.below hb10)
  clear HG39
  have HM10 := Lib.hid (HM9.out.below hb10)
  clear HM9
  have q10_0_0 : w10.cell? ⟨w.heap.size, 0, none⟩ = some (.string d) := by
    rw [hb10.cell (p := ⟨w.heap.size, 0, none⟩) (show w.heap.size < _ by (try simp) <;> (try omega))]
    exact q9_0_0
  have q10_0_1 : w10.cell? ⟨w.heap.size, 1, none⟩ = some (.int .i64 s) := by
    rw [hb10.cell (p := ⟨w.heap.size, 1, none⟩) (show w.heap.size < _ by (try simp) <;> (try omega))]
    exact q9_0_1
  have hl10_0 : w.heap.size < w10.heap.size := by omega
  clear q9_0_0 q9_0_1
  have q10_1_0 : w10.cell? ⟨w3.heap.size, 0, none⟩ = some (.int .i64 t1) := by
    rw [hb10.cell (p := ⟨w3.heap.size, 0, none⟩) (show w3.heap.size < _ by (try simp) <;> (try omega))]
    exact q9_1_0
  have q10_1_1 : w10.cell? ⟨w3.heap.size, 1, none⟩ = some (.int .i64 v1) := by
    rw [hb10.cell (p := ⟨w3.heap.size, 1, none⟩) (show w3.heap.size < _ by (try simp) <;> (try omega))]
    exact q9_1_1
  have q10_1_2 : w10.cell? ⟨w3.heap.size, 2, none⟩ = some (.slice a3 R.length c3) := by
    rw [hb10.cell (p := ⟨w3.heap.size, 2, none⟩) (show w3.heap.size < _ by (try simp) <;> (try omega))]
    exact q9_1_2
  have hl10_1 : w3.heap.size < w10.heap.size := by omega
  clear q9_1_0 q9_1_1 q9_1_2
  have q10_2_0 : w10.cell? ⟨w3.heap.size + 1, 0, none⟩ = some (.string d1) := by
    rw [hb10.cell (p := ⟨w3.heap.size + 1, 0, none⟩) (show w3.heap.size + 1 < _ by (try simp) <;> (try omega))]
    exact q9_2_0
  have q10_2_1 : w10.cell? ⟨w3.heap.size + 1, 1, none⟩ = some (.int .i64 n1) := by
    rw [hb10.cell (p := ⟨w3.heap.size + 1, 1, none⟩) (show w3.heap.size + 1 < _ by (try simp) <;> (try omega))]
    exact q9_2_1
  have hl10_2 : w3.heap.size + 1 < w10.heap.size := by omega
  clear q9_2_0 q9_2_1
  have q10_3_0 : w10.cell? ⟨w5.heap.size, 0, none⟩ = some (.int .i64 t1) := by
    rw [hb10.cell (p := ⟨w5.heap.size, 0, none⟩) (show w5.heap.size < _ by (try simp) <;> (try omega))]
    exact q9_3_0
  have q10_3_1 : w10.cell? ⟨w5.heap.size, 1, none⟩ = some (.int .i64 v1) := by
    rw [hb10.cell (p := ⟨w5.heap.size, 1, none⟩) (show w5.heap.size < _ by (try simp) <;> (try omega))]
    exact q9_3_1
  have q10_3_2 : w10.cell? ⟨w5.heap.size, 2, none⟩ = some (.slice a5 R.length c5) := by
    rw [hb10.cell (p := ⟨w5.heap.size, 2, none⟩) (show w5.heap.size < _ by (try simp) <;> (try omega))]
    exact q9_3_2
  have hl10_3 : w5.heap.size < w10.heap.size := by omega
  clear q9_3_0 q9_3_1 q9_3_2
  have q10_4_0 : w10.cell? ⟨w5.heap.size + 1, 0, none⟩ = some (.string d1) := by
    rw [hb10.cell (p := ⟨w5.heap.size + 1, 0, none⟩) (show w5.heap.size + 1 < _ by (try simp) <;> (try omega))]
    exact q9_4_0
  have q10_4_1 : w10.cell? ⟨w5.heap.size + 1, 1, none⟩ = some (.int .i64 n1) := by
    rw [hb10.cell (p := ⟨w5.heap.size + 1, 1, none⟩) (show w5.heap.size + 1 < _ by (try simp) <;> (try omega))]
    exact q9_4_1
  have hl10_4 : w5.heap.size + 1 < w10.heap.size := by omega
  clear q9_4_0 q9_4_1
  have HB10 : Hid (Below w.heap.size w w10) := HB9.out.trans (hb10.mono (by (try simp) <;> (try omega)))
  clear hb10
  go_wp2_with fail
  refine (IP.out _).mono ?_
  rintro e w11 ⟨a11, c11, rfl, hf11, hb11⟩
  have hz11 := hb11.size
  have HG1111 := Lib.hid (show FreshIn entE 109 2 (w10.heap.size) w11.heap.size (.slice a11 R.length c11) R w11 from (by simpa using hf11.here))
  clear hf11
  have HG311 := Lib.hid (HG310.out.below hb11)
  clear HG310
  have HM11 := Lib.hid (HM10.out.below hb11)
  clear HM10
  have q11_0_0 : w11.cell? ⟨w.heap.size, 0, none⟩ = some (.string d) := by
    rw [hb11.cell (p := ⟨w.heap.size, 0, none⟩) (show w.heap.size < _ by (try simp) <;> (try omega))]
    exact q10_0_0
  have q11_0_1 : w11.cell? ⟨w.heap.size, 1, none⟩ = some (.int .i64 s) := by
    rw [hb11.cell (p := ⟨w.heap.size, 1, none⟩) (show w.heap.size < _ by (try simp) <;> (try omega))]
    exact q10_0_1
  have hl11_0 : w.heap.size < w11.heap.size := by omega
  clear q10_0_0 q10_0_1
  have q11_1_0 : w11.cell? ⟨w3.heap.size, 0, none⟩ = some (.int .i64 t1) := by
    rw [hb11.cell (p := ⟨w3.heap.size, 0, none⟩) (show w3.heap.size < _ by (try simp) <;> (try omega))]
    exact q10_1_0
  have q11_1_1 : w11.cell? ⟨w3.heap.size, 1, none⟩ = some (.int .i64 v1) := by
    rw [hb11.cell (p := ⟨w3.heap.size, 1, none⟩) (show w3.heap.size < _ by (try simp) <;> (try omega))]
    exact q10_1_1
  have q11_1_2 : w11.cell? ⟨w3.heap.size, 2, none⟩ = some (.slice a3 R.length c3) := by
    rw [hb11.cell (p := ⟨w3.heap.size, 2, none⟩) (show w3.heap.size < _ by (try simp) <;> (try omega))]
    exact q10_1_2
  have hl11_1 : w3.heap.size < w11.heap.size := by omega
  clear q10_1_0 q10_1_1 q10_1_2
  have q11_2_0 : w11.cell? ⟨w3.heap.size + 1, 0, none⟩ = some (.string d1) := by
    rw [hb11.cell (p := ⟨w3.heap.size + 1, 0, none⟩) (show w3.heap.size + 1 < _ by (try simp) <;> (try omega))]
    exact q10_2_0
  have q11_2_1 : w11.cell? ⟨w3.heap.size + 1, 1, none⟩ = some (.int .i64 n1) := by
    rw [hb11.cell (p := ⟨w3.heap.size + 1, 1, none⟩) (show w3.heap.size + 1 < _ by (try simp) <;> (try omega))]
    exact q10_2_1
  have hl11_2 : w3.heap.size + 1 < w11.heap.size := by omega
  clear q10_2_0 q10_2_1
  have q11_3_0 : w11.cell? ⟨w5.heap.size, 0, none⟩ = some (.int .i64 t1) := by
    rw [hb11.cell (p := ⟨w5.heap.size, 0, none⟩) (show w5.heap.size < _ by (try simp) <;> (try omega))]
    exact q10_3_0
  have q11_3_1 : w11.cell? ⟨w5.heap.size, 1, none⟩ = some (.int .i64 v1) := by
    rw [hb11.cell (p := ⟨w5.heap.size, 1, none⟩) (show w5.heap.size < _ by (try simp) <;> (try omega))]
    exact q10_3_1
  have q11_3_2 : w11.cell? ⟨w5.heap.size, 2, none⟩ = some (.slice a5 R.length c5) := by
    rw [hb11.cell (p := ⟨w5.heap.size, 2, none⟩) (show w5.heap.size < _ by (try simp) <;> (try omega))]
    exact q10_3_2
  have hl11_3 : w5.heap.size < w11.heap.size := by omega
  clear q10_3_0 q10_3_1 q10_3_2
  have q11_4_0 : w11.cell? ⟨w5.heap.size + 1, 0, none⟩ = some (.string d1) := by
    rw [hb11.cell (p := ⟨w5.heap.size + 1, 0, none⟩) (show w5.heap.size + 1 < _ by (try simp) <;> (try omega))]
    exact q10_4_0
  have q11_4_1 : w11.cell? ⟨w5.heap.size + 1, 1, none⟩ = some (.int .i64 n1) := by
    rw [hb11.cell (p := ⟨w5.heap.size + 1, 1, none⟩) (show w5.heap.size + 1 < _ by (try simp) <;> (try omega))]
    exact q10_4_1
  have hl11_4 : w5.heap.size + 1 < w11.heap.size := by omega
  clear q10_4_0 q10_4_1
  have HB11 : Hid (Below w.heap.size w w11) := HB10.out.trans (hb11.mono (by (try simp) <;> (try omega)))
  clear hb11
  go_wp2_with fail
  refine (eqState_same a11 a3 c11 c3 R t1 v1 _ (((HG1111.out.alloc _).alloc _).sl fun _ => rfl) (((HG311.out.alloc _).alloc _).sl fun _ => rfl) (by omega)).mono ?_
  rintro e w12 ⟨rfl, hb12⟩
  have hz12 := hb12.size
  simp only [World.size_alloc] at hz12
  have HG312 := Lib.hid (((HG311.out.alloc _).alloc _).below hb12)
  clear HG311
  have HM12 := Lib.hid (((HM11.out.alloc _).alloc _).below hb12)
  clear HM11
  have HG1112 := Lib.hid (((HG1111.out.alloc _).alloc _).below hb12)
  clear HG1111
  have q12_0_0 : w12.cell? ⟨w.heap.size, 0, none⟩ = some (.string d) := by
    rw [hb12.cell (p := ⟨w.heap.size, 0, none⟩) (show w.heap.size < _ by (try simp) <;> (try omega))]
    first | assumption | (simp [go_sem, *])
  have q12_0_1 : w12.cell? ⟨w.heap.size, 1, none⟩ = some (.int .i64 s) := by
    rw [hb12.cell (p := ⟨w.heap.size, 1, none⟩) (show w.heap.size < _ by (try simp) <;> (try omega))]
    first | assumption | (simp [go_sem, *])
  have hl12_0 : w.heap.size < w12.heap.size := by omega
  clear q11_0_0 q11_0_1
  have q12_1_0 : w12.cell? ⟨w3.heap.size, 0, none⟩ = some (.int .i64 t1) := by
    rw [hb12.cell (p := ⟨w3.heap.size, 0, none⟩) (show w3.heap.size < _ by (try simp) <;> (try omega))]
    first | assumption | (simp [go_sem, *])
  have q12_1_1 : w12.cell? ⟨w3.heap.size, 1, none⟩ = some (.int .i64 v1) := by
    rw [hb12.cell (p := ⟨w3.heap.size, 1, none⟩) (show w3.heap.size < _ by (try simp) <;> (try omega))]
    first | assumption | (simp [go_sem, *])
  have q12_1_2 : w12.cell? ⟨w3.heap.size, 2, none⟩ = some (.slice a3 R.length c3) := by
    rw [hb12.cell (p := ⟨w3.heap.size, 2, none⟩) (show w3.heap.size < _ by (try simp) <;> (try omega))]
    first | assumption | (simp [go_sem, *])
  have hl12_1 : w3.heap.size < w12.heap.size := by omega
  clear q11_1_0 q11_1_1 q11_1_2
  have q12_2_0 : w12.cell? ⟨w3.heap.size + 1, 0, none⟩ = some (.string d1) := by
    rw [hb12.cell (p := ⟨w3.heap.size + 1, 0, none⟩) (show w3.heap.size + 1 < _ by (try simp) <;> (try omega))]
    first | assumption | (simp [go_sem, *])
  have q12_2_1 : w12.cell? ⟨w3.heap.size + 1, 1, none⟩ = some (.int .i64 n1) := by
    rw [hb12.cell (p := ⟨w3.heap.size + 1, 1, none⟩) (show w3.heap.size + 1 < _ by (try simp) <;> (try omega))]
    first | assumption | (simp [go_sem, *])
  have hl12_2 : w3.heap.size + 1 < w12.heap.size := by omega
  clear q11_2_0 q11_2_1
  have q12_3_0 : w12.cell? ⟨w5.heap.size, 0, none⟩ = some (.int .i64 t1) := by
    rw [hb12.cell (p := ⟨w5.heap.size, 0, none⟩) (show w5.heap.size < _ by (try simp) <;> (try omega))]
    first | assumption | (simp [go_sem, *])
  have q12_3_1 : w12.cell? ⟨w5.heap.size, 1, none⟩ = some (.int .i64 v1) := by
    rw [hb12.cell (p := ⟨w5.heap.size, 1, none⟩) (show w5.heap.size < _ by (try simp) <;> (try omega))]
    first | assumption | (simp [go_sem, *])
  have q12_3_2 : w12.cell? ⟨w5.heap.size, 2, none⟩ = some (.slice a5 R.length c5) := by
    rw [hb12.cell (p := ⟨w5.heap.size, 2, none⟩) (show w5.heap.size < _ by (try simp) <;> (try omega))]
    first | assumption | (simp [go_sem, *])
  have hl12_3 : w5.heap.size < w12.heap.size := by omega
  clear q11_3_0 q11_3_1 q11_3_2
  have q12_4_0 : w12.cell? ⟨w5.heap.size + 1, 0, none⟩ = some (.string d1) := by
    rw [hb12.cell (p := ⟨w5.heap.size + 1, 0, none⟩) (show w5.heap.size + 1 < _ by (try simp) <;> (try omega))]
    first | assumption | (simp [go_sem, *])
  have q12_4_1 : w12.cell? ⟨w5.heap.size + 1, 1, none⟩ = some (.int .i64 n1) := by
    rw [hb12.cell (p := ⟨w5.heap.size + 1, 1, none⟩) (show w5.heap.size + 1 < _ by (try simp) <;> (try omega))]
    first | assumption | (simp [go_sem, *])
  have hl12_4 : w5.heap.size + 1 < w12.heap.size := by omega
  clear q11_4_0 q11_4_1
  have q12_5_0 : w12.cell? ⟨w11.heap.size, 0, none⟩ = some (.int .i64 t1) := by
    rw [hb12.cell (p := ⟨w11.heap.size, 0, none⟩) (show w11.heap.size < _ by (try simp) <;> (try omega))]
    first | assumption | (simp [go_sem, *])
  have q12_5_1 : w12.cell? ⟨w11.heap.size, 1, none⟩ = some (.int .i64 v1) := by
    rw [hb12.cell (p := ⟨w11.heap.size, 1, none⟩) (show w11.heap.size < _ by (try simp) <;> (try omega))]
    first | assumption | (simp [go_sem, *])
  have q12_5_2 : w12.cell? ⟨w11.heap.size, 2, none⟩ = some (.slice a11 R.length c11) := by
    rw [hb12.cell (p := ⟨w11.heap.size, 2, none⟩) (show w11.heap.size < _ by (try simp) <;> (try omega))]
    first | assumption | (simp [go_sem, *])
  have hl12_5 : w11.heap.size < w12.heap.size := by omega
  have q12_6_0 : w12.cell? ⟨w11.heap.size + 1, 0, none⟩ = some (.string d1) := by
    rw [hb12.cell (p := ⟨w11.heap.size + 1, 0, none⟩) (show w11.heap.size + 1 < _ by (try simp) <;> (try omega))]
    first | assumption | (simp [go_sem, *])
  have q12_6_1 : w12.cell? ⟨w11.heap.size + 1, 1, none⟩ = some (.int .i64 n1) := by
    rw [hb12.cell (p := ⟨w11.heap.size + 1, 1, none⟩) (show w11.heap.size + 1 < _ by (try simp) <;> (try omega))]
    first | assumption | (simp [go_sem, *])
  have hl12_6 : w11.heap.size + 1 < w12.heap.size := by omega
  have HB12 : Hid (Below w.heap.size w w12) := ((HB11.out.alloc (by (try simp) <;> (try omega)) _).alloc (by (try simp) <;> (try omega)) _).trans (hb12.mono (by (try simp) <;> (try omega)))
  clear hb12
  go_wp2_with fail
  refine (eqStore_c d1 d1 n1 n1 _).mono ?_
  simp only [decide_true, Bool.and_self]
  rintro e w13 ⟨rfl, hb13⟩
  have hz13 := hb13.size
  have HG313 := Lib.hid (HG312.out.below hb13)
  clear HG312
  have HM13 := Lib.hid (HM12.out.below hb13)
  clear HM12
  have HG1113 := Lib.hid (HG1112.out.below hb13)
  clear HG1112
  have q13_0_0 : w13.cell? ⟨w.heap.size, 0, none⟩ = some (.string d) := by
    rw [hb13.cell (p := ⟨w.heap.size, 0, none⟩) (show w.heap.size < _ by (try simp) <;> (try omega))]
    exact q12_0_0
  have q13_0_1 : w13.cell? ⟨w.heap.size, 1, none⟩ = some (.int .i64 s) := by
    rw [hb13.cell (p := ⟨w.heap.size, 1, none⟩) (show w.heap.size < _ by (try simp) <;> (try omega))]
    exact q12_0_1
  have hl13_0 : w.heap.size < w13.heap.size := by omega
  clear q12_0_0 q12_0_1
  have q13_1_0 : w13.cell? ⟨w3.heap.size, 0, none⟩ = some (.int .i64 t1) := by
    rw [hb13.cell (p := ⟨w3.heap.size, 0, none⟩) (show w3.heap.size < _ by (try simp) <;> (try omega))]
    exact q12_1_0
  have q13_1_1 : w13.cell? ⟨w3.heap.size, 1, none⟩ = some (.int .i64 v1) := by
    rw [hb13.cell (p := ⟨w3.heap.size, 1, none⟩) (show w3.heap.size < _ by (try simp) <;> (try omega))]
    exact q12_1_1
  have q13_1_2 : w13.cell? ⟨w3.heap.size, 2, none⟩ = some (.slice a3 R.length c3) := by
    rw [hb13.cell (p := ⟨w3.heap.size, 2, none⟩) (show w3.heap.size < _ by (try simp) <;> (try omega))]
    exact q12_1_2
  have hl13_1 : w3.heap.size < w13.heap.size := by omega
  clear q12_1_0 q12_1_1 q12_1_2
  have q13_2_0 : w13.cell? ⟨w3.heap.size + 1, 0, none⟩ = some (.string d1) := by
    rw [hb13.cell (p := ⟨w3.heap.size + 1, 0, none⟩) (show w3.heap.size + 1 < _ by (try simp) <;> (try omega))]
    exact q12_2_0
  have q13_2_1 : w13.cell? ⟨w3.heap.size + 1, 1, none⟩ = some (.int .i64 n1) := by
    rw [hb13.cell (p := ⟨w3.heap.size + 1, 1, none⟩) (show w3.heap.size + 1 < _ by (try simp) <;> (try omega))]
    exact q12_2_1
  have hl13_2 : w3.heap.size + 1 < w13.heap.size := by omega
  clear q12_2_0 q12_2_1
  have q13_3_0 : w13.cell? ⟨w5.heap.size, 0, none⟩ = some (.int .i64 t1) := by
    rw [hb13.cell (p := ⟨w5.heap.size, 0, none⟩) (show w5.heap.size < _ by (try simp) <;> (try omega))]
    exact q12_3_0
  have q13_3_1 : w13.cell? ⟨w5.heap.size, 1, none⟩ = some (.int .i64 v1) := by
    rw [hb13.cell (p := ⟨w5.heap.size, 1, none⟩) (show w5.heap.size < _ by (try simp) <;> (try omega))]
    exact q12_3_1
  have q13_3_2 : w13.cell? ⟨w5.heap.size, 2, none⟩ = some (.slice a5 R.length c5) := by
    rw [hb13.cell (p := ⟨w5.heap.size, 2, none⟩) (show w5.heap.size < _ by (try simp) <;> (try omega))]
    exact q12_3_2
  have hl13_3 : w5.heap.size < w13.heap.size := by omega
  clear q12_3_0 q12_3_1 q12_3_2
  have q13_4_0 : w13.cell? ⟨w5.heap.size + 1, 0, none⟩ = some (.string d1) := by
    rw [hb13.cell (p := ⟨w5.heap.size + 1, 0, none⟩) (show w5.heap.size + 1 < _ by (try simp) <;> (try omega))]
    exact q12_4_0
  have q13_4_1 : w13.cell? ⟨w5.heap.size + 1, 1, none⟩ = some (.int .i64 n1) := by
    rw [hb13.cell (p := ⟨w5.heap.size + 1, 1, none⟩) (show w5.heap.size + 1 < _ by (try simp) <;> (try omega))]
    exact q12_4_1
  have hl13_4 : w5.heap.size + 1 < w13.heap.size := by omega
  clear q12_4_0 q12_4_1
  have q13_5_0 : w13.cell? ⟨w11.heap.size, 0, none⟩ = some (.int .i64 t1) := by
    rw [hb13.cell (p := ⟨w11.heap.size, 0, none⟩) (show w11.heap.size < _ by (try simp) <;> (try omega))]
    exact q12_5_0
  have q13_5_1 : w13.cell? ⟨w11.heap.size, 1, none⟩ = some (.int .i64 v1) := by
    rw [hb13.cell (p := ⟨w11.heap.size, 1, none⟩) (show w11.heap.size < _ by (try simp) <;> (try omega))]
    exact q12_5_1
  have q13_5_2 : w13.cell? ⟨w11.heap.size, 2, none⟩ = some (.slice a11 R.length c11) := by
    rw [hb13.cell (p := ⟨w11.heap.size, 2, none⟩) (show w11.heap.size < _ by (try simp) <;> (try omega))]
    exact q12_5_2
  have hl13_5 : w11.heap.size < w13.heap.size := by omega
  clear q12_5_0 q12_5_1 q12_5_2
  have q13_6_0 : w13.cell? ⟨w11.heap.size + 1, 0, none⟩ = some (.string d1) := by
    rw [hb13.cell (p := ⟨w11.heap.size + 1, 0, none⟩) (show w11.heap.size + 1 < _ by (try simp) <;> (try omega))]
    exact q12_6_0
  have q13_6_1 : w13.cell? ⟨w11.heap.size + 1, 1, none⟩ = some (.int .i64 n1) := by
    rw [hb13.cell (p := ⟨w11.heap.size + 1, 1, none⟩) (show w11.heap.size + 1 < _ by (try simp) <;> (try omega))]
    exact q12_6_1
  have hl13_6 : w11.heap.size + 1 < w13.heap.size := by omega
  clear q12_6_0 q12_6_1
  have HB13 : Hid (Below w.heap.size w w13) := HB12.out.trans (hb13.mono (by (try simp) <;> (try omega)))
  clear hb13
  go_wp2_with fail
  refine (heldState_c a5 c5 R.length t1 v1 1 _ (HM13.out.slq fun _ => rfl) (by omega)).mono ?_
  rw [← HQR.out]
  rintro e w14 ⟨rfl, hb14⟩
  have hz14 := hb14.size
  have HG314 := Lib.hid (HG313.out.below hb14)
  clear HG313
  have HM14 := Lib.hid (HM13.out.below hb14)
  clear HM13
  have HG1114 := Lib.hid (HG1113.out.below hb14)
  clear HG1113
  have q14_0_0 : w14.cell? ⟨w.heap.size, 0, none⟩ = some (.string d) := by
    rw [hb14.cell (p := ⟨w.heap.size, 0, none⟩) (show w.heap.size < _ by (try simp) <;> (try omega))]
    exact q13_0_0
  have q14_0_1 : w14.cell? ⟨w.heap.size, 1, none⟩ = some (.int .i64 s) := by
    rw [hb14.cell (p := ⟨w.heap.size, 1, none⟩) (show w.heap.size < _ by (try simp) <;> (try omega))]
    exact q13_0_1
  have hl14_0 : w.heap.size < w14.heap.size := by omega
  clear q13_0_0 q13_0_1
  have q14_1_0 : w14.cell? ⟨w3.heap.size, 0, none⟩ = some (.int .i64 t1) := by
    rw [hb14.cell (p := ⟨w3.heap.size, 0, none⟩) (show w3.heap.size < _ by (try simp) <;> (try omega))]
    exact q13_1_0
  have q14_1_1 : w14.cell? ⟨w3.heap.size, 1, none⟩ = some (.int .i64 v1) := by
    rw [hb14.cell (p := ⟨w3.heap.size, 1, none⟩) (show w3.heap.size < _ by (try simp) <;> (try omega))]
    exact q13_1_1
  have q14_1_2 : w14.cell? ⟨w3.heap.size, 2, none⟩ = some (.slice a3 R.length c3) := by
    rw [hb14.cell (p := ⟨w3.heap.size, 2, none⟩) (show w3.heap.size < _ by (try simp) <;> (try omega))]
    exact q13_1_2
  have hl14_1 : w3.heap.size < w14.heap.size := by omega
  clear q13_1_0 q13_1_1 q13_1_2
  have q14_2_0 : w14.cell? ⟨w3.heap.size + 1, 0, none⟩ = some (.string d1) := by
    rw [hb14.cell (p := ⟨w3.heap.size + 1, 0, none⟩) (show w3.heap.size + 1 < _ by (try simp) <;> (try omega))]
    exact q13_2_0
  have q14_2_1 : w14.cell? ⟨w3.heap.size + 1, 1, none⟩ = some (.int .i64 n1) := by
    rw [hb14.cell (p := ⟨w3.heap.size + 1, 1, none⟩) (show w3.heap.size + 1 < _ by (try simp) <;> (try omega))]
    exact q13_2_1
  have hl14_2 : w3.heap.size + 1 < w14.heap.size := by omega
  clear q13_2_0 q13_2_1
  have q14_3_0 : w14.cell? ⟨w5.heap.size, 0, none⟩ = some (.int .i64 t1) := by
    rw [hb14.cell (p := ⟨w5.heap.size, 0, none⟩) (show w5.heap.size < _ by (try simp) <;> (try omega))]
    exact q13_3_0
  have q14_3_1 : w14.cell? ⟨w5.heap.size, 1, none⟩ = some (.int .i64 v1) := by
    rw [hb14.cell (p := ⟨w5.heap.size, 1, none⟩) (show w5.heap.size < _ by (try simp) <;> (try omega))]
    exact q13_3_1
  have q14_3_2 : w14.cell? ⟨w5.heap.size, 2, none⟩ = some (.slice a5 R.length c5) := by
    rw [hb14.cell (p := ⟨w5.heap.size, 2, none⟩) (show w5.heap.size < _ by (try simp) <;> (try omega))]
    exact q13_3_2
  have hl14_3 : w5.heap.size < w14.heap.size := by omega
  clear q13_3_0 q13_3_1 q13_3_2
  have q14_4_0 : w14.cell? ⟨w5.heap.size + 1, 0, none⟩ = some (.string d1) := by
    rw [hb14.cell (p := ⟨w5.heap.size + 1, 0, none⟩) (show w5.heap.size + 1 < _ by (try simp) <;> (try omega))]
    exact q13_4_0
  have q14_4_1 : w14.cell? ⟨w5.heap.size + 1, 1, none⟩ = some (.int .i64 n1) := by
    rw [hb14.cell (p := ⟨w5.heap.size + 1, 1, none⟩) (show w5.heap.size + 1 < _ by (try simp) <;> (try omega))]
    exact q13_4_1
  have hl14_4 : w5.heap.size + 1 < w14.heap.size := by omega
  clear q13_4_0 q13_4_1
  have q14_5_0 : w14.cell? ⟨w11.heap.size, 0, none⟩ = some (.int .i64 t1) := by
    rw [hb14.cell (p := ⟨w11.heap.size, 0, none⟩) (show w11.heap.size < _ by (try simp) <;> (try omega))]
    exact q13_5_0
  have q14_5_1 : w14.cell? ⟨w11.heap.size, 1, none⟩ = some (.int .i64 v1) := by
    rw [hb14.cell (p := ⟨w11.heap.size, 1, none⟩) (show w11.heap.size < _ by (try simp) <;> (try omega))]
    exact q13_5_1
  have q14_5_2 : w14.cell? ⟨w11.heap.size, 2, none⟩ = some (.slice a11 R.length c11) := by
    rw [hb14.cell (p := ⟨w11.heap.size, 2, none⟩) (show w11.heap.size < _ by (try simp) <;> (try omega))]
    exact q13_5_2
  have hl14_5 : w11.heap.size < w14.heap.size := by omega
  clear q13_5_0 q13_5_1 q13_5_2
  have q14_6_0 : w14.cell? ⟨w11.heap.size + 1, 0, none⟩ = some (.string d1) := by
    rw [hb14.cell (p := ⟨w11.heap.size + 1, 0, none⟩) (show w11.heap.size + 1 < _ by (try simp) <;> (try omega))]
    exact q13_6_0
  have q14_6_1 : w14.cell? ⟨w11.heap.size + 1, 1, none⟩ = some (.int .i64 n1) := by
    rw [hb14.cell (p := ⟨w11.heap.size + 1, 1, none⟩) (show w11.heap.size + 1 < _ by (try simp) <;> (try omega))]
    exact q13_6_1
  have hl14_6 : w11.heap.size + 1 < w14.heap.size := by omega
  clear q13_6_0 q13_6_1
  have HB14 : Hid (Below w.heap.size w w14) := HB13.out.trans (hb14.mono (by (try simp) <;> (try omega)))
  clear hb14
  go_wp2_with fail
  go_ret
  exact ⟨rfl, HB14.out⟩
end Go.Proofs.Ytmdjcoeijlnloaa
