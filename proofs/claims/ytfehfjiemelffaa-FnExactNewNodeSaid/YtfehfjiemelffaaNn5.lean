/- The law FnExactNewNode: its walk. -/
import Derived.Test.YtfehfjiemelffaaNn4
import Derived.Deep.RegionHeld3
namespace Go.Proofs.Ytfehfjiemelffaa
set_option linter.unusedVariables false
set_option linter.unusedSimpArgs false
open Go.RowKit
set_option maxRecDepth 100000 in
set_option maxHeartbeats 16000000 in
theorem lawNew_c (id n : Int) (w : World) :
    Calls Try.prog 3 #[.int .i64 id, .int .i64 n] w fun e w' => e = .returned (.bool true) ∧ Below w.heap.size w w' := by
  obtain ⟨N, r, hN⟩ : ∃ N r, newV id n = N ∧ newE id n = r := ⟨_, _, rfl, rfl⟩
  have HN := Lib.hid hN
  have HZ : Hid (NodeSz N 1048576) := Lib.hid (hN.1 ▸ newV_sz id n)
  have hmk : markNum N 1 ≤ 1099511627776 := by have h1 := HZ.out.log; have h2 := HZ.out.votes; have h3 := HZ.out.next; have h4 := HZ.out.mtch; unfold markNum; omega
  have HMK := Lib.hid hmk
  clear hN hmk
  go_enter Try.func3, Try.ntmps3
  go_wp2_with fail
  refine (specNN_c id n N r HN.out _).mono ?_
  rintro e w1 ⟨al1, cl1, av1, cv1, an1, cn1, am1, cm1, rfl, hf1, hb1⟩
  have hz1 := hb1.size
  have HS1 := Lib.hid (show NodeSlIn (w.heap.size) w1.heap.size N w1 al1 cl1 av1 cv1 an1 cn1 am1 cm1 from (by simpa using hf1))
  clear hf1
  have HB1 := Lib.hid hb1
  clear hb1
  go_wp2_with fail
  refine (implNN_c id n N r HN.out _).mono ?_
  rintro e w2 ⟨al2, cl2, av2, cv2, an2, cn2, am2, cm2, rfl, hf2, hb2⟩
  have hz2 := hb2.size
  simp only [World.size_alloc] at hz2
  have HX2 := Lib.hid (show FreshNodeIn (w1.heap.size + 1) w2.heap.size N w2 al2 cl2 av2 cv2 an2 cn2 am2 cm2 from (by simpa using hf2))
  clear hf2
  have HS2 := Lib.hid ((HS1.out.alloc _).below hb2)
  clear HS1
  have q2_0_0 : w2.cell? ⟨w1.heap.size, 0, none⟩ = some (.int .i64 N.id) := by
    rw [hb2.cell (p := ⟨w1.heap.size, 0, none⟩) (show w1.heap.size < _ by (try simp) <;> (try omega))]
    first | assumption | (simp [go_sem, *])
  have q2_0_1 : w2.cell? ⟨w1.heap.size, 1, none⟩ = some (.int .i64 N.nodes) := by
    rw [hb2.cell (p := ⟨w1.heap.size, 1, none⟩) (show w1.heap.size < _ by (try simp) <;> (try omega))]
    first | assumption | (simp [go_sem, *])
  have q2_0_2 : w2.cell? ⟨w1.heap.size, 2, none⟩ = some (.int .i64 N.term) := by
    rw [hb2.cell (p := ⟨w1.heap.size, 2, none⟩) (show w1.heap.size < _ by (try simp) <;> (try omega))]
    first | assumption | (simp [go_sem, *])
  have q2_0_3 : w2.cell? ⟨w1.heap.size, 3, none⟩ = some (.int .i64 N.vote) := by
    rw [hb2.cell (p := ⟨w1.heap.size, 3, none⟩) (show w1.heap.size < _ by (try simp) <;> (try omega))]
    first | assumption | (simp [go_sem, *])
  have q2_0_4 : w2.cell? ⟨w1.heap.size, 4, none⟩ = some (.int .i64 N.role) := by
    rw [hb2.cell (p := ⟨w1.heap.size, 4, none⟩) (show w1.heap.size < _ by (try simp) <;> (try omega))]
    first | assumption | (simp [go_sem, *])
  have q2_0_5 : w2.cell? ⟨w1.heap.size, 5, none⟩ = some (.bool N.up) := by
    rw [hb2.cell (p := ⟨w1.heap.size, 5, none⟩) (show w1.heap.size < _ by (try simp) <;> (try omega))]
    first | assumption | (simp [go_sem, *])
  have q2_0_6 : w2.cell? ⟨w1.heap.size, 6, none⟩ = some (.slice al1 N.log.length cl1) := by
    rw [hb2.cell (p := ⟨w1.heap.size, 6, none⟩) (show w1.heap.size < _ by (try simp) <;> (try omega))]
    first | assumption | (simp [go_sem, *])
  have q2_0_7 : w2.cell? ⟨w1.heap.size, 7, none⟩ = some (.int .i64 N.commit) := by
    rw [hb2.cell (p := ⟨w1.heap.size, 7, none⟩) (show w1.heap.size < _ by (try simp) <;> (try omega))]
    first | assumption | (simp [go_sem, *])
  have q2_0_8 : w2.cell? ⟨w1.heap.size, 8, none⟩ = some (.int .i64 N.elapsed) := by
    rw [hb2.cell (p := ⟨w1.heap.size, 8, none⟩) (show w1.heap.size < _ by (try simp) <;> (try omega))]
    first | assumption | (simp [go_sem, *])
  have q2_0_9 : w2.cell? ⟨w1.heap.size, 9, none⟩ = some (.int .i64 N.wait) := by
    rw [hb2.cell (p := ⟨w1.heap.size, 9, none⟩) (show w1.heap.size < _ by (try simp) <;> (try omega))]
    first | assumption | (simp [go_sem, *])
  have q2_0_10 : w2.cell? ⟨w1.heap.size, 10, none⟩ = some (.slice av1 N.votes.length cv1) := by
    rw [hb2.cell (p := ⟨w1.heap.size, 10, none⟩) (show w1.heap.size < _ by (try simp) <;> (try omega))]
    first | assumption | (simp [go_sem, *])
  have q2_0_11 : w2.cell? ⟨w1.heap.size, 11, none⟩ = some (.slice an1 N.next.length cn1) := by
    rw [hb2.cell (p := ⟨w1.heap.size, 11, none⟩) (show w1.heap.size < _ by (try simp) <;> (try omega))]
    first | assumption | (simp [go_sem, *])
  have q2_0_12 : w2.cell? ⟨w1.heap.size, 12, none⟩ = some (.slice am1 N.mtch.length cm1) := by
    rw [hb2.cell (p := ⟨w1.heap.size, 12, none⟩) (show w1.heap.size < _ by (try simp) <;> (try omega))]
    first | assumption | (simp [go_sem, *])
  have hl2_0 : w1.heap.size < w2.heap.size := by omega
  have HB2 : Hid (Below w.heap.size w w2) := (HB1.out.alloc (by (try simp) <;> (try omega)) _).trans (hb2.mono (by (try simp) <;> (try omega)))
  clear hb2
  go_wp2_with fail
  refine (eqNode_same al2 cl2 av2 cv2 an2 cn2 am2 cm2 al1 cl1 av1 cv1 an1 cn1 am1 cm1 N _ ((HX2.out.alloc _).sl) ((HS2.out.alloc _).sl) HZ.out).mono ?_
  rintro e w3 ⟨rfl, hb3⟩
  have hz3 := hb3.size
  simp only [World.size_alloc] at hz3
  have HS3 := Lib.hid ((HS2.out.alloc _).below hb3)
  clear HS2
  have HX3 := Lib.hid ((HX2.out.alloc _).below hb3)
  clear HX2
  have q3_0_0 : w3.cell? ⟨w1.heap.size, 0, none⟩ = some (.int .i64 N.id) := by
    rw [hb3.cell (p := ⟨w1.heap.size, 0, none⟩) (show w1.heap.size < _ by (try simp) <;> (try omega))]
    first | assumption | (simp [go_sem, *])
  have q3_0_1 : w3.cell? ⟨w1.heap.size, 1, none⟩ = some (.int .i64 N.nodes) := by
    rw [hb3.cell (p := ⟨w1.heap.size, 1, none⟩) (show w1.heap.size < _ by (try simp) <;> (try omega))]
    first | assumption | (simp [go_sem, *])
  have q3_0_2 : w3.cell? ⟨w1.heap.size, 2, none⟩ = some (.int .i64 N.term) := by
    rw [hb3.cell (p := ⟨w1.heap.size, 2, none⟩) (show w1.heap.size < _ by (try simp) <;> (try omega))]
    first | assumption | (simp [go_sem, *])
  have q3_0_3 : w3.cell? ⟨w1.heap.size, 3, none⟩ = some (.int .i64 N.vote) := by
    rw [hb3.cell (p := ⟨w1.heap.size, 3, none⟩) (show w1.heap.size < _ by (try simp) <;> (try omega))]
    first | assumption | (simp [go_sem, *])
  have q3_0_4 : w3.cell? ⟨w1.heap.size, 4, none⟩ = some (.int .i64 N.role) := by
    rw [hb3.cell (p := ⟨w1.heap.size, 4, none⟩) (show w1.heap.size < _ by (try simp) <;> (try omega))]
    first | assumption | (simp [go_sem, *])
  have q3_0_5 : w3.cell? ⟨w1.heap.size, 5, none⟩ = some (.bool N.up) := by
    rw [hb3.cell (p := ⟨w1.heap.size, 5, none⟩) (show w1.heap.size < _ by (try simp) <;> (try omega))]
    first | assumption | (simp [go_sem, *])
  have q3_0_6 : w3.cell? ⟨w1.heap.size, 6, none⟩ = some (.slice al1 N.log.length cl1) := by
    rw [hb3.cell (p := ⟨w1.heap.size, 6, none⟩) (show w1.heap.size < _ by (try simp) <;> (try omega))]
    first | assumption | (simp [go_sem, *])
  have q3_0_7 : w3.cell? ⟨w1.heap.size, 7, none⟩ = some (.int .i64 N.commit) := by
    rw [hb3.cell (p := ⟨w1.heap.size, 7, none⟩) (show w1.heap.size < _ by (try simp) <;> (try omega))]
    first | assumption | (simp [go_sem, *])
  have q3_0_8 : w3.cell? ⟨w1.heap.size, 8, none⟩ = some (.int .i64 N.elapsed) := by
    rw [hb3.cell (p := ⟨w1.heap.size, 8, none⟩) (show w1.heap.size < _ by (try simp) <;> (try omega))]
    first | assumption | (simp [go_sem, *])
  have q3_0_9 : w3.cell? ⟨w1.heap.size, 9, none⟩ = some (.int .i64 N.wait) := by
    rw [hb3.cell (p := ⟨w1.heap.size, 9, none⟩) (show w1.heap.size < _ by (try simp) <;> (try omega))]
    first | assumption | (simp [go_sem, *])
  have q3_0_10 : w3.cell? ⟨w1.heap.size, 10, none⟩ = some (.slice av1 N.votes.length cv1) := by
    rw [hb3.cell (p := ⟨w1.heap.size, 10, none⟩) (show w1.heap.size < _ by (try simp) <;> (try omega))]
    first | assumption | (simp [go_sem, *])
  have q3_0_11 : w3.cell? ⟨w1.heap.size, 11, none⟩ = some (.slice an1 N.next.length cn1) := by
    rw [hb3.cell (p := ⟨w1.heap.size, 11, none⟩) (show w1.heap.size < _ by (try simp) <;> (try omega))]
    first | assumption | (simp [go_sem, *])
  have q3_0_12 : w3.cell? ⟨w1.heap.size, 12, none⟩ = some (.slice am1 N.mtch.length cm1) := by
    rw [hb3.cell (p := ⟨w1.heap.size, 12, none⟩) (show w1.heap.size < _ by (try simp) <;> (try omega))]
    first | assumption | (simp [go_sem, *])
  have hl3_0 : w1.heap.size < w3.heap.size := by omega
  clear q2_0_0 q2_0_1 q2_0_2 q2_0_3 q2_0_4 q2_0_5 q2_0_6 q2_0_7 q2_0_8 q2_0_9 q2_0_10 q2_0_11 q2_0_12
  have q3_1_0 : w3.cell? ⟨w2.heap.size, 0, none⟩ = some (.int .i64 N.id) := by
    rw [hb3.cell (p := ⟨w2.heap.size, 0, none⟩) (show w2.heap.size < _ by (try simp) <;> (try omega))]
    first | assumption | (simp [go_sem, *])
  have q3_1_1 : w3.cell? ⟨w2.heap.size, 1, none⟩ = some (.int .i64 N.nodes) := by
    rw [hb3.cell (p := ⟨w2.heap.size, 1, none⟩) (show w2.heap.size < _ by (try simp) <;> (try omega))]
    first | assumption | (simp [go_sem, *])
  have q3_1_2 : w3.cell? ⟨w2.heap.size, 2, none⟩ = some (.int .i64 N.term) := by
    rw [hb3.cell (p := ⟨w2.heap.size, 2, none⟩) (show w2.heap.size < _ by (try simp) <;> (try omega))]
    first | assumption | (simp [go_sem, *])
  have q3_1_3 : w3.cell? ⟨w2.heap.size, 3, none⟩ = some (.int .i64 N.vote) := by
    rw [hb3.cell (p := ⟨w2.heap.size, 3, none⟩) (show w2.heap.size < _ by (try simp) <;> (try omega))]
    first | assumption | (simp [go_sem, *])
  have q3_1_4 : w3.cell? ⟨w2.heap.size, 4, none⟩ = some (.int .i64 N.role) := by
    rw [hb3.cell (p := ⟨w2.heap.size, 4, none⟩) (show w2.heap.size < _ by (try simp) <;> (try omega))]
    first | assumption | (simp [go_sem, *])
  have q3_1_5 : w3.cell? ⟨w2.heap.size, 5, none⟩ = some (.bool N.up) := by
    rw [hb3.cell (p := ⟨w2.heap.size, 5, none⟩) (show w2.heap.size < _ by (try simp) <;> (try omega))]
    first | assumption | (simp [go_sem, *])
  have q3_1_6 : w3.cell? ⟨w2.heap.size, 6, none⟩ = some (.slice al2 N.log.length cl2) := by
    rw [hb3.cell (p := ⟨w2.heap.size, 6, none⟩) (show w2.heap.size < _ by (try simp) <;> (try omega))]
    first | assumption | (simp [go_sem, *])
  have q3_1_7 : w3.cell? ⟨w2.heap.size, 7, none⟩ = some (.int .i64 N.commit) := by
    rw [hb3.cell (p := ⟨w2.heap.size, 7, none⟩) (show w2.heap.size < _ by (try simp) <;> (try omega))]
    first | assumption | (simp [go_sem, *])
  have q3_1_8 : w3.cell? ⟨w2.heap.size, 8, none⟩ = some (.int .i64 N.elapsed) := by
    rw [hb3.cell (p := ⟨w2.heap.size, 8, none⟩) (show w2.heap.size < _ by (try simp) <;> (try omega))]
    first | assumption | (simp [go_sem, *])
  have q3_1_9 : w3.cell? ⟨w2.heap.size, 9, none⟩ = some (.int .i64 N.wait) := by
    rw [hb3.cell (p := ⟨w2.heap.size, 9, none⟩) (show w2.heap.size < _ by (try simp) <;> (try omega))]
    first | assumption | (simp [go_sem, *])
  have q3_1_10 : w3.cell? ⟨w2.heap.size, 10, none⟩ = some (.slice av2 N.votes.length cv2) := by
    rw [hb3.cell (p := ⟨w2.heap.size, 10, none⟩) (show w2.heap.size < _ by (try simp) <;> (try omega))]
    first | assumption | (simp [go_sem, *])
  have q3_1_11 : w3.cell? ⟨w2.heap.size, 11, none⟩ = some (.slice an2 N.next.length cn2) := by
    rw [hb3.cell (p := ⟨w2.heap.size, 11, none⟩) (show w2.heap.size < _ by (try simp) <;> (try omega))]
    first | assumption | (simp [go_sem, *])
  have q3_1_12 : w3.cell? ⟨w2.heap.size, 12, none⟩ = some (.slice am2 N.mtch.length cm2) := by
    rw [hb3.cell (p := ⟨w2.heap.size, 12, none⟩) (show w2.heap.size < _ by (try simp) <;> (try omega))]
    first | assumption | (simp [go_sem, *])
  have hl3_1 : w2.heap.size < w3.heap.size := by omega
  have HB3 : Hid (Below w.heap.size w w3) := (HB2.out.alloc (by (try simp) <;> (try omega)) _).trans (hb3.mono (by (try simp) <;> (try omega)))
  clear hb3
  go_wp2_with fail
  refine (markNode_c al2 cl2 av2 cv2 an2 cn2 am2 cm2 N 1 (w1.heap.size + 1) (w2.heap.size) _ HX3.out (by omega) HMK.out).mono ?_
  rintro e w4 ⟨rfl, hf4, hb4⟩
  have hz4 := hb4.size
  have HM4 := Lib.hid hf4
  clear hf4
  have HS4 := Lib.hid (HS3.out.mid hb4 (by omega))
  clear HS3
  have q4_0_0 : w4.cell? ⟨w1.heap.size, 0, none⟩ = some (.int .i64 N.id) := by
    rw [hb4.cell (p := ⟨w1.heap.size, 0, none⟩) (show w1.heap.size < _ by (try simp) <;> (try omega)) (by show w1.heap.size < _ ∨ _ ≤ w1.heap.size; omega)]
    exact q3_0_0
  have q4_0_1 : w4.cell? ⟨w1.heap.size, 1, none⟩ = some (.int .i64 N.nodes) := by
    rw [hb4.cell (p := ⟨w1.heap.size, 1, none⟩) (show w1.heap.size < _ by (try simp) <;> (try omega)) (by show w1.heap.size < _ ∨ _ ≤ w1.heap.size; omega)]
    exact q3_0_1
  have q4_0_2 : w4.cell? ⟨w1.heap.size, 2, none⟩ = some (.int .i64 N.term) := by
    rw [hb4.cell (p := ⟨w1.heap.size, 2, none⟩) (show w1.heap.size < _ by (try simp) <;> (try omega)) (by show w1.heap.size < _ ∨ _ ≤ w1.heap.size; omega)]
    exact q3_0_2
  have q4_0_3 : w4.cell? ⟨w1.heap.size, 3, none⟩ = some (.int .i64 N.vote) := by
    rw [hb4.cell (p := ⟨w1.heap.size, 3, none⟩) (show w1.heap.size < _ by (try simp) <;> (try omega)) (by show w1.heap.size < _ ∨ _ ≤ w1.heap.size; omega)]
    exact q3_0_3
  have q4_0_4 : w4.cell? ⟨w1.heap.size, 4, none⟩ = some (.int .i64 N.role) := by
    rw [hb4.cell (p := ⟨w1.heap.size, 4, none⟩) (show w1.heap.size < _ by (try simp) <;> (try omega)) (by show w1.heap.size < _ ∨ _ ≤ w1.heap.size; omega)]
    exact q3_0_4
  have q4_0_5 : w4.cell? ⟨w1.heap.size, 5, none⟩ = some (.bool N.up) := by
    rw [hb4.cell (p := ⟨w1.heap.size, 5, none⟩) (show w1.heap.size < _ by (try simp) <;> (try omega)) (by show w1.heap.size < _ ∨ _ ≤ w1.heap.size; omega)]
    exact q3_0_5
  have q4_0_6 : w4.cell? ⟨w1.heap.size, 6, none⟩ = some (.slice al1 N.log.length cl1) := by
    rw [hb4.cell (p := ⟨w1.heap.size, 6, none⟩) (show w1.heap.size < _ by (try simp) <;> (try omega)) (by show w1.heap.size < _ ∨ _ ≤ w1.heap.size; omega)]
    exact q3_0_6
  have q4_0_7 : w4.cell? ⟨w1.heap.size, 7, none⟩ = some (.int .i64 N.commit) := by
    rw [hb4.cell (p := ⟨w1.heap.size, 7, none⟩) (show w1.heap.size < _ by (try simp) <;> (try omega)) (by show w1.heap.size < _ ∨ _ ≤ w1.heap.size; omega)]
    exact q3_0_7
  have q4_0_8 : w4.cell? ⟨w1.heap.size, 8, none⟩ = some (.int .i64 N.elapsed) := by
    rw [hb4.cell (p := ⟨w1.heap.size, 8, none⟩) (show w1.heap.size < _ by (try simp) <;> (try omega)) (by show w1.heap.size < _ ∨ _ ≤ w1.heap.size; omega)]
    exact q3_0_8
  have q4_0_9 : w4.cell? ⟨w1.heap.size, 9, none⟩ = some (.int .i64 N.wait) := by
    rw [hb4.cell (p := ⟨w1.heap.size, 9, none⟩) (show w1.heap.size < _ by (try simp) <;> (try omega)) (by show w1.heap.size < _ ∨ _ ≤ w1.heap.size; omega)]
    exact q3_0_9
  have q4_0_10 : w4.cell? ⟨w1.heap.size, 10, none⟩ = some (.slice av1 N.votes.length cv1) := by
    rw [hb4.cell (p := ⟨w1.heap.size, 10, none⟩) (show w1.heap.size < _ by (try simp) <;> (try omega)) (by show w1.heap.size < _ ∨ _ ≤ w1.heap.size; omega)]
    exact q3_0_10
  have q4_0_11 : w4.cell? ⟨w1.heap.size, 11, none⟩ = some (.slice an1 N.next.length cn1) := by
    rw [hb4.cell (p := ⟨w1.heap.size, 11, none⟩) (show w1.heap.size < _ by (try simp) <;> (try omega)) (by show w1.heap.size < _ ∨ _ ≤ w1.heap.size; omega)]
    exact q3_0_11
  have q4_0_12 : w4.cell? ⟨w1.heap.size, 12, none⟩ = some (.slice am1 N.mtch.length cm1) := by
    rw [hb4.cell (p := ⟨w1.heap.size, 12, none⟩) (show w1.heap.size < _ by (try simp) <;> (try omega)) (by show w1.heap.size < _ ∨ _ ≤ w1.heap.size; omega)]
    exact q3_0_12
  have hl4_0 : w1.heap.size < w4.heap.size := by omega
  clear q3_0_0 q3_0_1 q3_0_2 q3_0_3 q3_0_4 q3_0_5 q3_0_6 q3_0_7 q3_0_8 q3_0_9 q3_0_10 q3_0_11 q3_0_12
  have q4_1_0 : w4.cell? ⟨w2.heap.size, 0, none⟩ = some (.int .i64 N.id) := by
    rw [hb4.cell (p := ⟨w2.heap.size, 0, none⟩) (show w2.heap.size < _ by (try simp) <;> (try omega)) (by show w2.heap.size < _ ∨ _ ≤ w2.heap.size; omega)]
    exact q3_1_0
  have q4_1_1 : w4.cell? ⟨w2.heap.size, 1, none⟩ = some (.int .i64 N.nodes) := by
    rw [hb4.cell (p := ⟨w2.heap.size, 1, none⟩) (show w2.heap.size < _ by (try simp) <;> (try omega)) (by show w2.heap.size < _ ∨ _ ≤ w2.heap.size; omega)]
    exact q3_1_1
  have q4_1_2 : w4.cell? ⟨w2.heap.size, 2, none⟩ = some (.int .i64 N.term) := by
    rw [hb4.cell (p := ⟨w2.heap.size, 2, none⟩) (show w2.heap.size < _ by (try simp) <;> (try omega)) (by show w2.heap.size < _ ∨ _ ≤ w2.heap.size; omega)]
    exact q3_1_2
  have q4_1_3 : w4.cell? ⟨w2.heap.size, 3, none⟩ = some (.int .i64 N.vote) := by
    rw [hb4.cell (p := ⟨w2.heap.size, 3, none⟩) (show w2.heap.size < _ by (try simp) <;> (try omega)) (by show w2.heap.size < _ ∨ _ ≤ w2.heap.size; omega)]
    exact q3_1_3
  have q4_1_4 : w4.cell? ⟨w2.heap.size, 4, none⟩ = some (.int .i64 N.role) := by
    rw [hb4.cell (p := ⟨w2.heap.size, 4, none⟩) (show w2.heap.size < _ by (try simp) <;> (try omega)) (by show w2.heap.size < _ ∨ _ ≤ w2.heap.size; omega)]
    exact q3_1_4
  have q4_1_5 : w4.cell? ⟨w2.heap.size, 5, none⟩ = some (.bool N.up) := by
    rw [hb4.cell (p := ⟨w2.heap.size, 5, none⟩) (show w2.heap.size < _ by (try simp) <;> (try omega)) (by show w2.heap.size < _ ∨ _ ≤ w2.heap.size; omega)]
    exact q3_1_5
  have q4_1_6 : w4.cell? ⟨w2.heap.size, 6, none⟩ = some (.slice al2 N.log.length cl2) := by
    rw [hb4.cell (p := ⟨w2.heap.size, 6, none⟩) (show w2.heap.size < _ by (try simp) <;> (try omega)) (by show w2.heap.size < _ ∨ _ ≤ w2.heap.size; omega)]
    exact q3_1_6
  have q4_1_7 : w4.cell? ⟨w2.heap.size, 7, none⟩ = some (.int .i64 N.commit) := by
    rw [hb4.cell (p := ⟨w2.heap.size, 7, none⟩) (show w2.heap.size < _ by (try simp) <;> (try omega)) (by show w2.heap.size < _ ∨ _ ≤ w2.heap.size; omega)]
    exact q3_1_7
  have q4_1_8 : w4.cell? ⟨w2.heap.size, 8, none⟩ = some (.int .i64 N.elapsed) := by
    rw [hb4.cell (p := ⟨w2.heap.size, 8, none⟩) (show w2.heap.size < _ by (try simp) <;> (try omega)) (by show w2.heap.size < _ ∨ _ ≤ w2.heap.size; omega)]
    exact q3_1_8
  have q4_1_9 : w4.cell? ⟨w2.heap.size, 9, none⟩ = some (.int .i64 N.wait) := by
    rw [hb4.cell (p := ⟨w2.heap.size, 9, none⟩) (show w2.heap.size < _ by (try simp) <;> (try omega)) (by show w2.heap.size < _ ∨ _ ≤ w2.heap.size; omega)]
    exact q3_1_9
  have q4_1_10 : w4.cell? ⟨w2.heap.size, 10, none⟩ = some (.slice av2 N.votes.length cv2) := by
    rw [hb4.cell (p := ⟨w2.heap.size, 10, none⟩) (show w2.heap.size < _ by (try simp) <;> (try omega)) (by show w2.heap.size < _ ∨ _ ≤ w2.heap.size; omega)]
    exact q3_1_10
  have q4_1_11 : w4.cell? ⟨w2.heap.size, 11, none⟩ = some (.slice an2 N.next.length cn2) := by
    rw [hb4.cell (p := ⟨w2.heap.size, 11, none⟩) (show w2.heap.size < _ by (try simp) <;> (try omega)) (by show w2.heap.size < _ ∨ _ ≤ w2.heap.size; omega)]
    exact q3_1_11
  have q4_1_12 : w4.cell? ⟨w2.heap.size, 12, none⟩ = some (.slice am2 N.mtch.length cm2) := by
    rw [hb4.cell (p := ⟨w2.heap.size, 12, none⟩) (show w2.heap.size < _ by (try simp) <;> (try omega)) (by show w2.heap.size < _ ∨ _ ≤ w2.heap.size; omega)]
    exact q3_1_12
  have hl4_1 : w2.heap.size < w4.heap.size := by omega
  clear q3_1_0 q3_1_1 q3_1_2 q3_1_3 q3_1_4 q3_1_5 q3_1_6 q3_1_7 q3_1_8 q3_1_9 q3_1_10 q3_1_11 q3_1_12
  have HB4 : Hid (Below w.heap.size w w4) := HB3.out.trans (hb4.below (by omega) (by (try simp) <;> (try omega)))
  clear hb4
  clear HX3
  go_wp2_with fail
  refine (heldNode_c al2 cl2 av2 cv2 an2 cn2 am2 cm2 N 1 (w1.heap.size + 1) (w2.heap.size) _ HM4.out HMK.out).mono ?_
  rintro e w5 ⟨rfl, hb5⟩
  have hz5 := hb5.size
  have HS5 := Lib.hid (HS4.out.below hb5)
  clear HS4
  have HM5 := Lib.hid (HM4.out.below hb5)
  clear HM4
  have q5_0_0 : w5.cell? ⟨w1.heap.size, 0, none⟩ = some (.int .i64 N.id) := by
    rw [hb5.cell (p := ⟨w1.heap.size, 0, none⟩) (show w1.heap.size < _ by (try simp) <;> (try omega))]
    exact q4_0_0
  have q5_0_1 : w5.cell? ⟨w1.heap.size, 1, none⟩ = some (.int .i64 N.nodes) := by
    rw [hb5.cell (p := ⟨w1.heap.size, 1, none⟩) (show w1.heap.size < _ by (try simp) <;> (try omega))]
    exact q4_0_1
  have q5_0_2 : w5.cell? ⟨w1.heap.size, 2, none⟩ = some (.int .i64 N.term) := by
    rw [hb5.cell (p := ⟨w1.heap.size, 2, none⟩) (show w1.heap.size < _ by (try simp) <;> (try omega))]
    exact q4_0_2
  have q5_0_3 : w5.cell? ⟨w1.heap.size, 3, none⟩ = some (.int .i64 N.vote) := by
    rw [hb5.cell (p := ⟨w1.heap.size, 3, none⟩) (show w1.heap.size < _ by (try simp) <;> (try omega))]
    exact q4_0_3
  have q5_0_4 : w5.cell? ⟨w1.heap.size, 4, none⟩ = some (.int .i64 N.role) := by
    rw [hb5.cell (p := ⟨w1.heap.size, 4, none⟩) (show w1.heap.size < _ by (try simp) <;> (try omega))]
    exact q4_0_4
  have q5_0_5 : w5.cell? ⟨w1.heap.size, 5, none⟩ = some (.bool N.up) := by
    rw [hb5.cell (p := ⟨w1.heap.size, 5, none⟩) (show w1.heap.size < _ by (try simp) <;> (try omega))]
    exact q4_0_5
  have q5_0_6 : w5.cell? ⟨w1.heap.size, 6, none⟩ = some (.slice al1 N.log.length cl1) := by
    rw [hb5.cell (p := ⟨w1.heap.size, 6, none⟩) (show w1.heap.size < _ by (try simp) <;> (try omega))]
    exact q4_0_6
  have q5_0_7 : w5.cell? ⟨w1.heap.size, 7, none⟩ = some (.int .i64 N.commit) := by
    rw [hb5.cell (p := ⟨w1.heap.size, 7, none⟩) (show w1.heap.size < _ by (try simp) <;> (try omega))]
    exact q4_0_7
  have q5_0_8 : w5.cell? ⟨w1.heap.size, 8, none⟩ = some (.int .i64 N.elapsed) := by
    rw [hb5.cell (p := ⟨w1.heap.size, 8, none⟩) (show w1.heap.size < _ by (try simp) <;> (try omega))]
    exact q4_0_8
  have q5_0_9 : w5.cell? ⟨w1.heap.size, 9, none⟩ = some (.int .i64 N.wait) := by
    rw [hb5.cell (p := ⟨w1.heap.size, 9, none⟩) (show w1.heap.size < _ by (try simp) <;> (try omega))]
    exact q4_0_9
  have q5_0_10 : w5.cell? ⟨w1.heap.size, 10, none⟩ = some (.slice av1 N.votes.length cv1) := by
    rw [hb5.cell (p := ⟨w1.heap.size, 10, none⟩) (show w1.heap.size < _ by (try simp) <;> (try omega))]
    exact q4_0_10
  have q5_0_11 : w5.cell? ⟨w1.heap.size, 11, none⟩ = some (.slice an1 N.next.length cn1) := by
    rw [hb5.cell (p := ⟨w1.heap.size, 11, none⟩) (show w1.heap.size < _ by (try simp) <;> (try omega))]
    exact q4_0_11
  have q5_0_12 : w5.cell? ⟨w1.heap.size, 12, none⟩ = some (.slice am1 N.mtch.length cm1) := by
    rw [hb5.cell (p := ⟨w1.heap.size, 12, none⟩) (show w1.heap.size < _ by (try simp) <;> (try omega))]
    exact q4_0_12
  have hl5_0 : w1.heap.size < w5.heap.size := by omega
  clear q4_0_0 q4_0_1 q4_0_2 q4_0_3 q4_0_4 q4_0_5 q4_0_6 q4_0_7 q4_0_8 q4_0_9 q4_0_10 q4_0_11 q4_0_12
  have q5_1_0 : w5.cell? ⟨w2.heap.size, 0, none⟩ = some (.int .i64 N.id) := by
    rw [hb5.cell (p := ⟨w2.heap.size, 0, none⟩) (show w2.heap.size < _ by (try simp) <;> (try omega))]
    exact q4_1_0
  have q5_1_1 : w5.cell? ⟨w2.heap.size, 1, none⟩ = some (.int .i64 N.nodes) := by
    rw [hb5.cell (p := ⟨w2.heap.size, 1, none⟩) (show w2.heap.size < _ by (try simp) <;> (try omega))]
    exact q4_1_1
  have q5_1_2 : w5.cell? ⟨w2.heap.size, 2, none⟩ = some (.int .i64 N.term) := by
    rw [hb5.cell (p := ⟨w2.heap.size, 2, none⟩) (show w2.heap.size < _ by (try simp) <;> (try omega))]
    exact q4_1_2
  have q5_1_3 : w5.cell? ⟨w2.heap.size, 3, none⟩ = some (.int .i64 N.vote) := by
    rw [hb5.cell (p := ⟨w2.heap.size, 3, none⟩) (show w2.heap.size < _ by (try simp) <;> (try omega))]
    exact q4_1_3
  have q5_1_4 : w5.cell? ⟨w2.heap.size, 4, none⟩ = some (.int .i64 N.role) := by
    rw [hb5.cell (p := ⟨w2.heap.size, 4, none⟩) (show w2.heap.size < _ by (try simp) <;> (try omega))]
    exact q4_1_4
  have q5_1_5 : w5.cell? ⟨w2.heap.size, 5, none⟩ = some (.bool N.up) := by
    rw [hb5.cell (p := ⟨w2.heap.size, 5, none⟩) (show w2.heap.size < _ by (try simp) <;> (try omega))]
    exact q4_1_5
  have q5_1_6 : w5.cell? ⟨w2.heap.size, 6, none⟩ = some (.slice al2 N.log.length cl2) := by
    rw [hb5.cell (p := ⟨w2.heap.size, 6, none⟩) (show w2.heap.size < _ by (try simp) <;> (try omega))]
    exact q4_1_6
  have q5_1_7 : w5.cell? ⟨w2.heap.size, 7, none⟩ = some (.int .i64 N.commit) := by
    rw [hb5.cell (p := ⟨w2.heap.size, 7, none⟩) (show w2.heap.size < _ by (try simp) <;> (try omega))]
    exact q4_1_7
  have q5_1_8 : w5.cell? ⟨w2.heap.size, 8, none⟩ = some (.int .i64 N.elapsed) := by
    rw [hb5.cell (p := ⟨w2.heap.size, 8, none⟩) (show w2.heap.size < _ by (try simp) <;> (try omega))]
    exact q4_1_8
  have q5_1_9 : w5.cell? ⟨w2.heap.size, 9, none⟩ = some (.int .i64 N.wait) := by
    rw [hb5.cell (p := ⟨w2.heap.size, 9, none⟩) (show w2.heap.size < _ by (try simp) <;> (try omega))]
    exact q4_1_9
  have q5_1_10 : w5.cell? ⟨w2.heap.size, 10, none⟩ = some (.slice av2 N.votes.length cv2) := by
    rw [hb5.cell (p := ⟨w2.heap.size, 10, none⟩) (show w2.heap.size < _ by (try simp) <;> (try omega))]
    exact q4_1_10
  have q5_1_11 : w5.cell? ⟨w2.heap.size, 11, none⟩ = some (.slice an2 N.next.length cn2) := by
    rw [hb5.cell (p := ⟨w2.heap.size, 11, none⟩) (show w2.heap.size < _ by (try simp) <;> (try omega))]
    exact q4_1_11
  have q5_1_12 : w5.cell? ⟨w2.heap.size, 12, none⟩ = some (.slice am2 N.mtch.length cm2) := by
    rw [hb5.cell (p := ⟨w2.heap.size, 12, none⟩) (show w2.heap.size < _ by (try simp) <;> (try omega))]
    exact q4_1_12
  have hl5_1 : w2.heap.size < w5.heap.size := by omega
  clear q4_1_0 q4_1_1 q4_1_2 q4_1_3 q4_1_4 q4_1_5 q4_1_6 q4_1_7 q4_1_8 q4_1_9 q4_1_10 q4_1_11 q4_1_12
  have HB5 : Hid (Below w.heap.size w w5) := HB4.out.trans (hb5.mono (by (try simp) <;> (try omega)))
  clear hb5
  go_wp2_with fail
  refine (implNN_c id n N r HN.out _).mono ?_
  rintro e w6 ⟨al6, cl6, av6, cv6, an6, cn6, am6, cm6, rfl, hf6, hb6⟩
  have hz6 := hb6.size
  have HY6 := Lib.hid (show FreshNodeIn (w5.heap.size) w6.heap.size N w6 al6 cl6 av6 cv6 an6 cn6 am6 cm6 from (by simpa using hf6))
  clear hf6
  have HS6 := Lib.hid (HS5.out.below hb6)
  clear HS5
  have HM6 := Lib.hid (HM5.out.below hb6)
  clear HM5
  have q6_0_0 : w6.cell? ⟨w1.heap.size, 0, none⟩ = some (.int .i64 N.id) := by
    rw [hb6.cell (p := ⟨w1.heap.size, 0, none⟩) (show w1.heap.size < _ by (try simp) <;> (try omega))]
    exact q5_0_0
  have q6_0_1 : w6.cell? ⟨w1.heap.size, 1, none⟩ = some (.int .i64 N.nodes) := by
    rw [hb6.cell (p := ⟨w1.heap.size, 1, none⟩) (show w1.heap.size < _ by (try simp) <;> (try omega))]
    exact q5_0_1
  have q6_0_2 : w6.cell? ⟨w1.heap.size, 2, none⟩ = some (.int .i64 N.term) := by
    rw [hb6.cell (p := ⟨w1.heap.size, 2, none⟩) (show w1.heap.size < _ by (try simp) <;> (try omega))]
    exact q5_0_2
  have q6_0_3 : w6.cell? ⟨w1.heap.size, 3, none⟩ = some (.int .i64 N.vote) := by
    rw [hb6.cell (p := ⟨w1.heap.size, 3, none⟩) (show w1.heap.size < _ by (try simp) <;> (try omega))]
    exact q5_0_3
  have q6_0_4 : w6.cell? ⟨w1.heap.size, 4, none⟩ = some (.int .i64 N.role) := by
    rw [hb6.cell (p := ⟨w1.heap.size, 4, none⟩) (show w1.heap.size < _ by (try simp) <;> (try omega))]
    exact q5_0_4
  have q6_0_5 : w6.cell? ⟨w1.heap.size, 5, none⟩ = some (.bool N.up) := by
    rw [hb6.cell (p := ⟨w1.heap.size, 5, none⟩) (show w1.heap.size < _ by (try simp) <;> (try omega))]
    exact q5_0_5
  have q6_0_6 : w6.cell? ⟨w1.heap.size, 6, none⟩ = some (.slice al1 N.log.length cl1) := by
    rw [hb6.cell (p := ⟨w1.heap.size, 6, none⟩) (show w1.heap.size < _ by (try simp) <;> (try omega))]
    exact q5_0_6
  have q6_0_7 : w6.cell? ⟨w1.heap.size, 7, none⟩ = some (.int .i64 N.commit) := by
    rw [hb6.cell (p := ⟨w1.heap.size, 7, none⟩) (show w1.heap.size < _ by (try simp) <;> (try omega))]
    exact q5_0_7
  have q6_0_8 : w6.cell? ⟨w1.heap.size, 8, none⟩ = some (.int .i64 N.elapsed) := by
    rw [hb6.cell (p := ⟨w1.heap.size, 8, none⟩) (show w1.heap.size < _ by (try simp) <;> (try omega))]
    exact q5_0_8
  have q6_0_9 : w6.cell? ⟨w1.heap.size, 9, none⟩ = some (.int .i64 N.wait) := by
    rw [hb6.cell (p := ⟨w1.heap.size, 9, none⟩) (show w1.heap.size < _ by (try simp) <;> (try omega))]
    exact q5_0_9
  have q6_0_10 : w6.cell? ⟨w1.heap.size, 10, none⟩ = some (.slice av1 N.votes.length cv1) := by
    rw [hb6.cell (p := ⟨w1.heap.size, 10, none⟩) (show w1.heap.size < _ by (try simp) <;> (try omega))]
    exact q5_0_10
  have q6_0_11 : w6.cell? ⟨w1.heap.size, 11, none⟩ = some (.slice an1 N.next.length cn1) := by
    rw [hb6.cell (p := ⟨w1.heap.size, 11, none⟩) (show w1.heap.size < _ by (try simp) <;> (try omega))]
    exact q5_0_11
  have q6_0_12 : w6.cell? ⟨w1.heap.size, 12, none⟩ = some (.slice am1 N.mtch.length cm1) := by
    rw [hb6.cell (p := ⟨w1.heap.size, 12, none⟩) (show w1.heap.size < _ by (try simp) <;> (try omega))]
    exact q5_0_12
  have hl6_0 : w1.heap.size < w6.heap.size := by omega
  clear q5_0_0 q5_0_1 q5_0_2 q5_0_3 q5_0_4 q5_0_5 q5_0_6 q5_0_7 q5_0_8 q5_0_9 q5_0_10 q5_0_11 q5_0_12
  have q6_1_0 : w6.cell? ⟨w2.heap.size, 0, none⟩ = some (.int .i64 N.id) := by
    rw [hb6.cell (p := ⟨w2.heap.size, 0, none⟩) (show w2.heap.size < _ by (try simp) <;> (try omega))]
    exact q5_1_0
  have q6_1_1 : w6.cell? ⟨w2.heap.size, 1, none⟩ = some (.int .i64 N.nodes) := by
    rw [hb6.cell (p := ⟨w2.heap.size, 1, none⟩) (show w2.heap.size < _ by (try simp) <;> (try omega))]
    exact q5_1_1
  have q6_1_2 : w6.cell? ⟨w2.heap.size, 2, none⟩ = some (.int .i64 N.term) := by
    rw [hb6.cell (p := ⟨w2.heap.size, 2, none⟩) (show w2.heap.size < _ by (try simp) <;> (try omega))]
    exact q5_1_2
  have q6_1_3 : w6.cell? ⟨w2.heap.size, 3, none⟩ = some (.int .i64 N.vote) := by
    rw [hb6.cell (p := ⟨w2.heap.size, 3, none⟩) (show w2.heap.size < _ by (try simp) <;> (try omega))]
    exact q5_1_3
  have q6_1_4 : w6.cell? ⟨w2.heap.size, 4, none⟩ = some (.int .i64 N.role) := by
    rw [hb6.cell (p := ⟨w2.heap.size, 4, none⟩) (show w2.heap.size < _ by (try simp) <;> (try omega))]
    exact q5_1_4
  have q6_1_5 : w6.cell? ⟨w2.heap.size, 5, none⟩ = some (.bool N.up) := by
    rw [hb6.cell (p := ⟨w2.heap.size, 5, none⟩) (show w2.heap.size < _ by (try simp) <;> (try omega))]
    exact q5_1_5
  have q6_1_6 : w6.cell? ⟨w2.heap.size, 6, none⟩ = some (.slice al2 N.log.length cl2) := by
    rw [hb6.cell (p := ⟨w2.heap.size, 6, none⟩) (show w2.heap.size < _ by (try simp) <;> (try omega))]
    exact q5_1_6
  have q6_1_7 : w6.cell? ⟨w2.heap.size, 7, none⟩ = some (.int .i64 N.commit) := by
    rw [hb6.cell (p := ⟨w2.heap.size, 7, none⟩) (show w2.heap.size < _ by (try simp) <;> (try omega))]
    exact q5_1_7
  have q6_1_8 : w6.cell? ⟨w2.heap.size, 8, none⟩ = some (.int .i64 N.elapsed) := by
    rw [hb6.cell (p := ⟨w2.heap.size, 8, none⟩) (show w2.heap.size < _ by (try simp) <;> (try omega))]
    exact q5_1_8
  have q6_1_9 : w6.cell? ⟨w2.heap.size, 9, none⟩ = some (.int .i64 N.wait) := by
    rw [hb6.cell (p := ⟨w2.heap.size, 9, none⟩) (show w2.heap.size < _ by (try simp) <;> (try omega))]
    exact q5_1_9
  have q6_1_10 : w6.cell? ⟨w2.heap.size, 10, none⟩ = some (.slice av2 N.votes.length cv2) := by
    rw [hb6.cell (p := ⟨w2.heap.size, 10, none⟩) (show w2.heap.size < _ by (try simp) <;> (try omega))]
    exact q5_1_10
  have q6_1_11 : w6.cell? ⟨w2.heap.size, 11, none⟩ = some (.slice an2 N.next.length cn2) := by
    rw [hb6.cell (p := ⟨w2.heap.size, 11, none⟩) (show w2.heap.size < _ by (try simp) <;> (try omega))]
    exact q5_1_11
  have q6_1_12 : w6.cell? ⟨w2.heap.size, 12, none⟩ = some (.slice am2 N.mtch.length cm2) := by
    rw [hb6.cell (p := ⟨w2.heap.size, 12, none⟩) (show w2.heap.size < _ by (try simp) <;> (try omega))]
    exact q5_1_12
  have hl6_1 : w2.heap.size < w6.heap.size := by omega
  clear q5_1_0 q5_1_1 q5_1_2 q5_1_3 q5_1_4 q5_1_5 q5_1_6 q5_1_7 q5_1_8 q5_1_9 q5_1_10 q5_1_11 q5_1_12
  have HB6 : Hid (Below w.heap.size w w6) := HB5.out.trans (hb6.mono (by (try simp) <;> (try omega)))
  clear hb6
  go_wp2_with fail
  refine (eqNode_same al6 cl6 av6 cv6 an6 cn6 am6 cm6 al1 cl1 av1 cv1 an1 cn1 am1 cm1 N _ ((HY6.out.alloc _).sl) ((HS6.out.alloc _).sl) HZ.out).mono ?_
  rintro e w7 ⟨rfl, hb7⟩
  have hz7 := hb7.size
  simp only [World.size_alloc] at hz7
  have HS7 := Lib.hid ((HS6.out.alloc _).below hb7)
  clear HS6
  have HM7 := Lib.hid ((HM6.out.alloc _).below hb7)
  clear HM6
  have HY7 := Lib.hid ((HY6.out.alloc _).below hb7)
  clear HY6
  have q7_0_0 : w7.cell? ⟨w1.heap.size, 0, none⟩ = some (.int .i64 N.id) := by
    rw [hb7.cell (p := ⟨w1.heap.size, 0, none⟩) (show w1.heap.size < _ by (try simp) <;> (try omega))]
    first | assumption | (simp [go_sem, *])
  have q7_0_1 : w7.cell? ⟨w1.heap.size, 1, none⟩ = some (.int .i64 N.nodes) := by
    rw [hb7.cell (p := ⟨w1.heap.size, 1, none⟩) (show w1.heap.size < _ by (try simp) <;> (try omega))]
    first | assumption | (simp [go_sem, *])
  have q7_0_2 : w7.cell? ⟨w1.heap.size, 2, none⟩ = some (.int .i64 N.term) := by
    rw [hb7.cell (p := ⟨w1.heap.size, 2, none⟩) (show w1.heap.size < _ by (try simp) <;> (try omega))]
    first | assumption | (simp [go_sem, *])
  have q7_0_3 : w7.cell? ⟨w1.heap.size, 3, none⟩ = some (.int .i64 N.vote) := by
    rw [hb7.cell (p := ⟨w1.heap.size, 3, none⟩) (show w1.heap.size < _ by (try simp) <;> (try omega))]
    first | assumption | (simp [go_sem, *])
  have q7_0_4 : w7.cell? ⟨w1.heap.size, 4, none⟩ = some (.int .i64 N.role) := by
    rw [hb7.cell (p := ⟨w1.heap.size, 4, none⟩) (show w1.heap.size < _ by (try simp) <;> (try omega))]
    first | assumption | (simp [go_sem, *])
  have q7_0_5 : w7.cell? ⟨w1.heap.size, 5, none⟩ = some (.bool N.up) := by
    rw [hb7.cell (p := ⟨w1.heap.size, 5, none⟩) (show w1.heap.size < _ by (try simp) <;> (try omega))]
    first | assumption | (simp [go_sem, *])
  have q7_0_6 : w7.cell? ⟨w1.heap.size, 6, none⟩ = some (.slice al1 N.log.length cl1) := by
    rw [hb7.cell (p := ⟨w1.heap.size, 6, none⟩) (show w1.heap.size < _ by (try simp) <;> (try omega))]
    first | assumption | (simp [go_sem, *])
  have q7_0_7 : w7.cell? ⟨w1.heap.size, 7, none⟩ = some (.int .i64 N.commit) := by
    rw [hb7.cell (p := ⟨w1.heap.size, 7, none⟩) (show w1.heap.size < _ by (try simp) <;> (try omega))]
    first | assumption | (simp [go_sem, *])
  have q7_0_8 : w7.cell? ⟨w1.heap.size, 8, none⟩ = some (.int .i64 N.elapsed) := by
    rw [hb7.cell (p := ⟨w1.heap.size, 8, none⟩) (show w1.heap.size < _ by (try simp) <;> (try omega))]
    first | assumption | (simp [go_sem, *])
  have q7_0_9 : w7.cell? ⟨w1.heap.size, 9, none⟩ = some (.int .i64 N.wait) := by
    rw [hb7.cell (p := ⟨w1.heap.size, 9, none⟩) (show w1.heap.size < _ by (try simp) <;> (try omega))]
    first | assumption | (simp [go_sem, *])
  have q7_0_10 : w7.cell? ⟨w1.heap.size, 10, none⟩ = some (.slice av1 N.votes.length cv1) := by
    rw [hb7.cell (p := ⟨w1.heap.size, 10, none⟩) (show w1.heap.size < _ by (try simp) <;> (try omega))]
    first | assumption | (simp [go_sem, *])
  have q7_0_11 : w7.cell? ⟨w1.heap.size, 11, none⟩ = some (.slice an1 N.next.length cn1) := by
    rw [hb7.cell (p := ⟨w1.heap.size, 11, none⟩) (show w1.heap.size < _ by (try simp) <;> (try omega))]
    first | assumption | (simp [go_sem, *])
  have q7_0_12 : w7.cell? ⟨w1.heap.size, 12, none⟩ = some (.slice am1 N.mtch.length cm1) := by
    rw [hb7.cell (p := ⟨w1.heap.size, 12, none⟩) (show w1.heap.size < _ by (try simp) <;> (try omega))]
    first | assumption | (simp [go_sem, *])
  have hl7_0 : w1.heap.size < w7.heap.size := by omega
  clear q6_0_0 q6_0_1 q6_0_2 q6_0_3 q6_0_4 q6_0_5 q6_0_6 q6_0_7 q6_0_8 q6_0_9 q6_0_10 q6_0_11 q6_0_12
  have q7_1_0 : w7.cell? ⟨w2.heap.size, 0, none⟩ = some (.int .i64 N.id) := by
    rw [hb7.cell (p := ⟨w2.heap.size, 0, none⟩) (show w2.heap.size < _ by (try simp) <;> (try omega))]
    first | assumption | (simp [go_sem, *])
  have q7_1_1 : w7.cell? ⟨w2.heap.size, 1, none⟩ = some (.int .i64 N.nodes) := by
    rw [hb7.cell (p := ⟨w2.heap.size, 1, none⟩) (show w2.heap.size < _ by (try simp) <;> (try omega))]
    first | assumption | (simp [go_sem, *])
  have q7_1_2 : w7.cell? ⟨w2.heap.size, 2, none⟩ = some (.int .i64 N.term) := by
    rw [hb7.cell (p := ⟨w2.heap.size, 2, none⟩) (show w2.heap.size < _ by (try simp) <;> (try omega))]
    first | assumption | (simp [go_sem, *])
  have q7_1_3 : w7.cell? ⟨w2.heap.size, 3, none⟩ = some (.int .i64 N.vote) := by
    rw [hb7.cell (p := ⟨w2.heap.size, 3, none⟩) (show w2.heap.size < _ by (try simp) <;> (try omega))]
    first | assumption | (simp [go_sem, *])
  have q7_1_4 : w7.cell? ⟨w2.heap.size, 4, none⟩ = some (.int .i64 N.role) := by
    rw [hb7.cell (p := ⟨w2.heap.size, 4, none⟩) (show w2.heap.size < _ by (try simp) <;> (try omega))]
    first | assumption | (simp [go_sem, *])
  have q7_1_5 : w7.cell? ⟨w2.heap.size, 5, none⟩ = some (.bool N.up) := by
    rw [hb7.cell (p := ⟨w2.heap.size, 5, none⟩) (show w2.heap.size < _ by (try simp) <;> (try omega))]
    first | assumption | (simp [go_sem, *])
  have q7_1_6 : w7.cell? ⟨w2.heap.size, 6, none⟩ = some (.slice al2 N.log.length cl2) := by
    rw [hb7.cell (p := ⟨w2.heap.size, 6, none⟩) (show w2.heap.size < _ by (try simp) <;> (try omega))]
    first | assumption | (simp [go_sem, *])
  have q7_1_7 : w7.cell? ⟨w2.heap.size, 7, none⟩ = some (.int .i64 N.commit) := by
    rw [hb7.cell (p := ⟨w2.heap.size, 7, none⟩) (show w2.heap.size < _ by (try simp) <;> (try omega))]
    first | assumption | (simp [go_sem, *])
  have q7_1_8 : w7.cell? ⟨w2.heap.size, 8, none⟩ = some (.int .i64 N.elapsed) := by
    rw [hb7.cell (p := ⟨w2.heap.size, 8, none⟩) (show w2.heap.size < _ by (try simp) <;> (try omega))]
    first | assumption | (simp [go_sem, *])
  have q7_1_9 : w7.cell? ⟨w2.heap.size, 9, none⟩ = some (.int .i64 N.wait) := by
    rw [hb7.cell (p := ⟨w2.heap.size, 9, none⟩) (show w2.heap.size < _ by (try simp) <;> (try omega))]
    first | assumption | (simp [go_sem, *])
  have q7_1_10 : w7.cell? ⟨w2.heap.size, 10, none⟩ = some (.slice av2 N.votes.length cv2) := by
    rw [hb7.cell (p := ⟨w2.heap.size, 10, none⟩) (show w2.heap.size < _ by (try simp) <;> (try omega))]
    first | assumption | (simp [go_sem, *])
  have q7_1_11 : w7.cell? ⟨w2.heap.size, 11, none⟩ = some (.slice an2 N.next.length cn2) := by
    rw [hb7.cell (p := ⟨w2.heap.size, 11, none⟩) (show w2.heap.size < _ by (try simp) <;> (try omega))]
    first | assumption | (simp [go_sem, *])
  have q7_1_12 : w7.cell? ⟨w2.heap.size, 12, none⟩ = some (.slice am2 N.mtch.length cm2) := by
    rw [hb7.cell (p := ⟨w2.heap.size, 12, none⟩) (show w2.heap.size < _ by (try simp) <;> (try omega))]
    first | assumption | (simp [go_sem, *])
  have hl7_1 : w2.heap.size < w7.heap.size := by omega
  clear q6_1_0 q6_1_1 q6_1_2 q6_1_3 q6_1_4 q6_1_5 q6_1_6 q6_1_7 q6_1_8 q6_1_9 q6_1_10 q6_1_11 q6_1_12
  have q7_2_0 : w7.cell? ⟨w6.heap.size, 0, none⟩ = some (.int .i64 N.id) := by
    rw [hb7.cell (p := ⟨w6.heap.size, 0, none⟩) (show w6.heap.size < _ by (try simp) <;> (try omega))]
    first | assumption | (simp [go_sem, *])
  have q7_2_1 : w7.cell? ⟨w6.heap.size, 1, none⟩ = some (.int .i64 N.nodes) := by
    rw [hb7.cell (p := ⟨w6.heap.size, 1, none⟩) (show w6.heap.size < _ by (try simp) <;> (try omega))]
    first | assumption | (simp [go_sem, *])
  have q7_2_2 : w7.cell? ⟨w6.heap.size, 2, none⟩ = some (.int .i64 N.term) := by
    rw [hb7.cell (p := ⟨w6.heap.size, 2, none⟩) (show w6.heap.size < _ by (try simp) <;> (try omega))]
    first | assumption | (simp [go_sem, *])
  have q7_2_3 : w7.cell? ⟨w6.heap.size, 3, none⟩ = some (.int .i64 N.vote) := by
    rw [hb7.cell (p := ⟨w6.heap.size, 3, none⟩) (show w6.heap.size < _ by (try simp) <;> (try omega))]
    first | assumption | (simp [go_sem, *])
  have q7_2_4 : w7.cell? ⟨w6.heap.size, 4, none⟩ = some (.int .i64 N.role) := by
    rw [hb7.cell (p := ⟨w6.heap.size, 4, none⟩) (show w6.heap.size < _ by (try simp) <;> (try omega))]
    first | assumption | (simp [go_sem, *])
  have q7_2_5 : w7.cell? ⟨w6.heap.size, 5, none⟩ = some (.bool N.up) := by
    rw [hb7.cell (p := ⟨w6.heap.size, 5, none⟩) (show w6.heap.size < _ by (try simp) <;> (try omega))]
    first | assumption | (simp [go_sem, *])
  have q7_2_6 : w7.cell? ⟨w6.heap.size, 6, none⟩ = some (.slice al6 N.log.length cl6) := by
    rw [hb7.cell (p := ⟨w6.heap.size, 6, none⟩) (show w6.heap.size < _ by (try simp) <;> (try omega))]
    first | assumption | (simp [go_sem, *])
  have q7_2_7 : w7.cell? ⟨w6.heap.size, 7, none⟩ = some (.int .i64 N.commit) := by
    rw [hb7.cell (p := ⟨w6.heap.size, 7, none⟩) (show w6.heap.size < _ by (try simp) <;> (try omega))]
    first | assumption | (simp [go_sem, *])
  have q7_2_8 : w7.cell? ⟨w6.heap.size, 8, none⟩ = some (.int .i64 N.elapsed) := by
    rw [hb7.cell (p := ⟨w6.heap.size, 8, none⟩) (show w6.heap.size < _ by (try simp) <;> (try omega))]
    first | assumption | (simp [go_sem, *])
  have q7_2_9 : w7.cell? ⟨w6.heap.size, 9, none⟩ = some (.int .i64 N.wait) := by
    rw [hb7.cell (p := ⟨w6.heap.size, 9, none⟩) (show w6.heap.size < _ by (try simp) <;> (try omega))]
    first | assumption | (simp [go_sem, *])
  have q7_2_10 : w7.cell? ⟨w6.heap.size, 10, none⟩ = some (.slice av6 N.votes.length cv6) := by
    rw [hb7.cell (p := ⟨w6.heap.size, 10, none⟩) (show w6.heap.size < _ by (try simp) <;> (try omega))]
    first | assumption | (simp [go_sem, *])
  have q7_2_11 : w7.cell? ⟨w6.heap.size, 11, none⟩ = some (.slice an6 N.next.length cn6) := by
    rw [hb7.cell (p := ⟨w6.heap.size, 11, none⟩) (show w6.heap.size < _ by (try simp) <;> (try omega))]
    first | assumption | (simp [go_sem, *])
  have q7_2_12 : w7.cell? ⟨w6.heap.size, 12, none⟩ = some (.slice am6 N.mtch.length cm6) := by
    rw [hb7.cell (p := ⟨w6.heap.size, 12, none⟩) (show w6.heap.size < _ by (try simp) <;> (try omega))]
    first | assumption | (simp [go_sem, *])
  have hl7_2 : w6.heap.size < w7.heap.size := by omega
  have HB7 : Hid (Below w.heap.size w w7) := (HB6.out.alloc (by (try simp) <;> (try omega)) _).trans (hb7.mono (by (try simp) <;> (try omega)))
  clear hb7
  go_wp2_with fail
  refine (heldNode_c al2 cl2 av2 cv2 an2 cn2 am2 cm2 N 1 (w1.heap.size + 1) (w2.heap.size) _ HM7.out HMK.out).mono ?_
  rintro e w8 ⟨rfl, hb8⟩
  have hz8 := hb8.size
  have HS8 := Lib.hid (HS7.out.below hb8)
  clear HS7
  have HM8 := Lib.hid (HM7.out.below hb8)
  clear HM7
  have HY8 := Lib.hid (HY7.out.below hb8)
  clear HY7
  have q8_0_0 : w8.cell? ⟨w1.heap.size, 0, none⟩ = some (.int .i64 N.id) := by
    rw [hb8.cell (p := ⟨w1.heap.size, 0, none⟩) (show w1.heap.size < _ by (try simp) <;> (try omega))]
    exact q7_0_0
  have q8_0_1 : w8.cell? ⟨w1.heap.size, 1, none⟩ = some (.int .i64 N.nodes) := by
    rw [hb8.cell (p := ⟨w1.heap.size, 1, none⟩) (show w1.heap.size < _ by (try simp) <;> (try omega))]
    exact q7_0_1
  have q8_0_2 : w8.cell? ⟨w1.heap.size, 2, none⟩ = some (.int .i64 N.term) := by
    rw [hb8.cell (p := ⟨w1.heap.size, 2, none⟩) (show w1.heap.size < _ by (try simp) <;> (try omega))]
    exact q7_0_2
  have q8_0_3 : w8.cell? ⟨w1.heap.size, 3, none⟩ = some (.int .i64 N.vote) := by
    rw [hb8.cell (p := ⟨w1.heap.size, 3, none⟩) (show w1.heap.size < _ by (try simp) <;> (try omega))]
    exact q7_0_3
  have q8_0_4 : w8.cell? ⟨w1.heap.size, 4, none⟩ = some (.int .i64 N.role) := by
    rw [hb8.cell (p := ⟨w1.heap.size, 4, none⟩) (show w1.heap.size < _ by (try simp) <;> (try omega))]
    exact q7_0_4
  have q8_0_5 : w8.cell? ⟨w1.heap.size, 5, none⟩ = some (.bool N.up) := by
    rw [hb8.cell (p := ⟨w1.heap.size, 5, none⟩) (show w1.heap.size < _ by (try simp) <;> (try omega))]
    exact q7_0_5
  have q8_0_6 : w8.cell? ⟨w1.heap.size, 6, none⟩ = some (.slice al1 N.log.length cl1) := by
    rw [hb8.cell (p := ⟨w1.heap.size, 6, none⟩) (show w1.heap.size < _ by (try simp) <;> (try omega))]
    exact q7_0_6
  have q8_0_7 : w8.cell? ⟨w1.heap.size, 7, none⟩ = some (.int .i64 N.commit) := by
    rw [hb8.cell (p := ⟨w1.heap.size, 7, none⟩) (show w1.heap.size < _ by (try simp) <;> (try omega))]
    exact q7_0_7
  have q8_0_8 : w8.cell? ⟨w1.heap.size, 8, none⟩ = some (.int .i64 N.elapsed) := by
    rw [hb8.cell (p := ⟨w1.heap.size, 8, none⟩) (show w1.heap.size < _ by (try simp) <;> (try omega))]
    exact q7_0_8
  have q8_0_9 : w8.cell? ⟨w1.heap.size, 9, none⟩ = some (.int .i64 N.wait) := by
    rw [hb8.cell (p := ⟨w1.heap.size, 9, none⟩) (show w1.heap.size < _ by (try simp) <;> (try omega))]
    exact q7_0_9
  have q8_0_10 : w8.cell? ⟨w1.heap.size, 10, none⟩ = some (.slice av1 N.votes.length cv1) := by
    rw [hb8.cell (p := ⟨w1.heap.size, 10, none⟩) (show w1.heap.size < _ by (try simp) <;> (try omega))]
    exact q7_0_10
  have q8_0_11 : w8.cell? ⟨w1.heap.size, 11, none⟩ = some (.slice an1 N.next.length cn1) := by
    rw [hb8.cell (p := ⟨w1.heap.size, 11, none⟩) (show w1.heap.size < _ by (try simp) <;> (try omega))]
    exact q7_0_11
  have q8_0_12 : w8.cell? ⟨w1.heap.size, 12, none⟩ = some (.slice am1 N.mtch.length cm1) := by
    rw [hb8.cell (p := ⟨w1.heap.size, 12, none⟩) (show w1.heap.size < _ by (try simp) <;> (try omega))]
    exact q7_0_12
  have hl8_0 : w1.heap.size < w8.heap.size := by omega
  clear q7_0_0 q7_0_1 q7_0_2 q7_0_3 q7_0_4 q7_0_5 q7_0_6 q7_0_7 q7_0_8 q7_0_9 q7_0_10 q7_0_11 q7_0_12
  have q8_1_0 : w8.cell? ⟨w2.heap.size, 0, none⟩ = some (.int .i64 N.id) := by
    rw [hb8.cell (p := ⟨w2.heap.size, 0, none⟩) (show w2.heap.size < _ by (try simp) <;> (try omega))]
    exact q7_1_0
  have q8_1_1 : w8.cell? ⟨w2.heap.size, 1, none⟩ = some (.int .i64 N.nodes) := by
    rw [hb8.cell (p := ⟨w2.heap.size, 1, none⟩) (show w2.heap.size < _ by (try simp) <;> (try omega))]
    exact q7_1_1
  have q8_1_2 : w8.cell? ⟨w2.heap.size, 2, none⟩ = some (.int .i64 N.term) := by
    rw [hb8.cell (p := ⟨w2.heap.size, 2, none⟩) (show w2.heap.size < _ by (try simp) <;> (try omega))]
    exact q7_1_2
  have q8_1_3 : w8.cell? ⟨w2.heap.size, 3, none⟩ = some (.int .i64 N.vote) := by
    rw [hb8.cell (p := ⟨w2.heap.size, 3, none⟩) (show w2.heap.size < _ by (try simp) <;> (try omega))]
    exact q7_1_3
  have q8_1_4 : w8.cell? ⟨w2.heap.size, 4, none⟩ = some (.int .i64 N.role) := by
    rw [hb8.cell (p := ⟨w2.heap.size, 4, none⟩) (show w2.heap.size < _ by (try simp) <;> (try omega))]
    exact q7_1_4
  have q8_1_5 : w8.cell? ⟨w2.heap.size, 5, none⟩ = some (.bool N.up) := by
    rw [hb8.cell (p := ⟨w2.heap.size, 5, none⟩) (show w2.heap.size < _ by (try simp) <;> (try omega))]
    exact q7_1_5
  have q8_1_6 : w8.cell? ⟨w2.heap.size, 6, none⟩ = some (.slice al2 N.log.length cl2) := by
    rw [hb8.cell (p := ⟨w2.heap.size, 6, none⟩) (show w2.heap.size < _ by (try simp) <;> (try omega))]
    exact q7_1_6
  have q8_1_7 : w8.cell? ⟨w2.heap.size, 7, none⟩ = some (.int .i64 N.commit) := by
    rw [hb8.cell (p := ⟨w2.heap.size, 7, none⟩) (show w2.heap.size < _ by (try simp) <;> (try omega))]
    exact q7_1_7
  have q8_1_8 : w8.cell? ⟨w2.heap.size, 8, none⟩ = some (.int .i64 N.elapsed) := by
    rw [hb8.cell (p := ⟨w2.heap.size, 8, none⟩) (show w2.heap.size < _ by (try simp) <;> (try omega))]
    exact q7_1_8
  have q8_1_9 : w8.cell? ⟨w2.heap.size, 9, none⟩ = some (.int .i64 N.wait) := by
    rw [hb8.cell (p := ⟨w2.heap.size, 9, none⟩) (show w2.heap.size < _ by (try simp) <;> (try omega))]
    exact q7_1_9
  have q8_1_10 : w8.cell? ⟨w2.heap.size, 10, none⟩ = some (.slice av2 N.votes.length cv2) := by
    rw [hb8.cell (p := ⟨w2.heap.size, 10, none⟩) (show w2.heap.size < _ by (try simp) <;> (try omega))]
    exact q7_1_10
  have q8_1_11 : w8.cell? ⟨w2.heap.size, 11, none⟩ = some (.slice an2 N.next.length cn2) := by
    rw [hb8.cell (p := ⟨w2.heap.size, 11, none⟩) (show w2.heap.size < _ by (try simp) <;> (try omega))]
    exact q7_1_11
  have q8_1_12 : w8.cell? ⟨w2.heap.size, 12, none⟩ = some (.slice am2 N.mtch.length cm2) := by
    rw [hb8.cell (p := ⟨w2.heap.size, 12, none⟩) (show w2.heap.size < _ by (try simp) <;> (try omega))]
    exact q7_1_12
  have hl8_1 : w2.heap.size < w8.heap.size := by omega
  clear q7_1_0 q7_1_1 q7_1_2 q7_1_3 q7_1_4 q7_1_5 q7_1_6 q7_1_7 q7_1_8 q7_1_9 q7_1_10 q7_1_11 q7_1_12
  have q8_2_0 : w8.cell? ⟨w6.heap.size, 0, none⟩ = some (.int .i64 N.id) := by
    rw [hb8.cell (p := ⟨w6.heap.size, 0, none⟩) (show w6.heap.size < _ by (try simp) <;> (try omega))]
    exact q7_2_0
  have q8_2_1 : w8.cell? ⟨w6.heap.size, 1, none⟩ = some (.int .i64 N.nodes) := by
    rw [hb8.cell (p := ⟨w6.heap.size, 1, none⟩) (show w6.heap.size < _ by (try simp) <;> (try omega))]
    exact q7_2_1
  have q8_2_2 : w8.cell? ⟨w6.heap.size, 2, none⟩ = some (.int .i64 N.term) := by
    rw [hb8.cell (p := ⟨w6.heap.size, 2, none⟩) (show w6.heap.size < _ by (try simp) <;> (try omega))]
    exact q7_2_2
  have q8_2_3 : w8.cell? ⟨w6.heap.size, 3, none⟩ = some (.int .i64 N.vote) := by
    rw [hb8.cell (p := ⟨w6.heap.size, 3, none⟩) (show w6.heap.size < _ by (try simp) <;> (try omega))]
    exact q7_2_3
  have q8_2_4 : w8.cell? ⟨w6.heap.size, 4, none⟩ = some (.int .i64 N.role) := by
    rw [hb8.cell (p := ⟨w6.heap.size, 4, none⟩) (show w6.heap.size < _ by (try simp) <;> (try omega))]
    exact q7_2_4
  have q8_2_5 : w8.cell? ⟨w6.heap.size, 5, none⟩ = some (.bool N.up) := by
    rw [hb8.cell (p := ⟨w6.heap.size, 5, none⟩) (show w6.heap.size < _ by (try simp) <;> (try omega))]
    exact q7_2_5
  have q8_2_6 : w8.cell? ⟨w6.heap.size, 6, none⟩ = some (.slice al6 N.log.length cl6) := by
    rw [hb8.cell (p := ⟨w6.heap.size, 6, none⟩) (show w6.heap.size < _ by (try simp) <;> (try omega))]
    exact q7_2_6
  have q8_2_7 : w8.cell? ⟨w6.heap.size, 7, none⟩ = some (.int .i64 N.commit) := by
    rw [hb8.cell (p := ⟨w6.heap.size, 7, none⟩) (show w6.heap.size < _ by (try simp) <;> (try omega))]
    exact q7_2_7
  have q8_2_8 : w8.cell? ⟨w6.heap.size, 8, none⟩ = some (.int .i64 N.elapsed) := by
    rw [hb8.cell (p := ⟨w6.heap.size, 8, none⟩) (show w6.heap.size < _ by (try simp) <;> (try omega))]
    exact q7_2_8
  have q8_2_9 : w8.cell? ⟨w6.heap.size, 9, none⟩ = some (.int .i64 N.wait) := by
    rw [hb8.cell (p := ⟨w6.heap.size, 9, none⟩) (show w6.heap.size < _ by (try simp) <;> (try omega))]
    exact q7_2_9
  have q8_2_10 : w8.cell? ⟨w6.heap.size, 10, none⟩ = some (.slice av6 N.votes.length cv6) := by
    rw [hb8.cell (p := ⟨w6.heap.size, 10, none⟩) (show w6.heap.size < _ by (try simp) <;> (try omega))]
    exact q7_2_10
  have q8_2_11 : w8.cell? ⟨w6.heap.size, 11, none⟩ = some (.slice an6 N.next.length cn6) := by
    rw [hb8.cell (p := ⟨w6.heap.size, 11, none⟩) (show w6.heap.size < _ by (try simp) <;> (try omega))]
    exact q7_2_11
  have q8_2_12 : w8.cell? ⟨w6.heap.size, 12, none⟩ = some (.slice am6 N.mtch.length cm6) := by
    rw [hb8.cell (p := ⟨w6.heap.size, 12, none⟩) (show w6.heap.size < _ by (try simp) <;> (try omega))]
    exact q7_2_12
  have hl8_2 : w6.heap.size < w8.heap.size := by omega
  clear q7_2_0 q7_2_1 q7_2_2 q7_2_3 q7_2_4 q7_2_5 q7_2_6 q7_2_7 q7_2_8 q7_2_9 q7_2_10 q7_2_11 q7_2_12
  have HB8 : Hid (Below w.heap.size w w8) := HB7.out.trans (hb8.mono (by (try simp) <;> (try omega)))
  clear hb8
  go_wp2_with fail
  go_ret
  exact ⟨rfl, HB8.out⟩
end Go.Proofs.Ytfehfjiemelffaa
