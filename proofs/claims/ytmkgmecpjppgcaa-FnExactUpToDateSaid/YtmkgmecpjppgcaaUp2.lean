/- The law FnExactUpToDate: its walk. -/
import Derived.Test.YtmkgmecpjppgcaaUp
import Derived.Deep.RegionHeld3
namespace Go.Proofs.Ytmkgmecpjppgcaa
set_option linter.unusedVariables false
set_option linter.unusedSimpArgs false
open Go.RowKit
set_option maxRecDepth 100000 in
set_option maxHeartbeats 4000000 in
theorem lawUp_c (al : Option Addr) (cl : Nat) (av : Option Addr) (cv : Nat) (an : Option Addr) (cn : Nat) (am : Option Addr) (cm : Nat) (N : NodeV) (i t : Int) (w : World) (hN : NodeSl w al av an am N) (hZ : NodeSz N 9223372036854775807) :
    Calls Try.prog 13 #[.agg #[.int .i64 N.id, .int .i64 N.nodes, .int .i64 N.term, .int .i64 N.vote, .int .i64 N.role, .bool N.up, .slice al N.log.length cl, .int .i64 N.commit, .int .i64 N.elapsed, .int .i64 N.wait, .slice av N.votes.length cv, .slice an N.next.length cn, .slice am N.mtch.length cm], .int .i64 i, .int .i64 t] w fun e w' => e = .returned (.bool true) ∧ Below w.heap.size w w' := by
  obtain ⟨p, q, hpq⟩ : ∃ p q, upV N i t = (p, q) := ⟨_, _, rfl⟩
  have HP := Lib.hid hpq
  clear hpq
  have HZ0 := Lib.hid hZ
  clear hZ
  go_enter Try.func13, Try.ntmps13
  go_wp2_with fail
  refine (szNode_c al cl av cv an cn am cm N _ _ (hN.alloc _) HZ0.out (by omega) (by omega)).mono ?_
  rintro e w1 ⟨⟨n, rfl, hn, himp⟩, hb1⟩
  have HI := Lib.hid himp
  clear himp
  have hN1 := (hN.alloc _).keep hb1
  have hz1 := hb1.size
  try simp at hz1
  have q1_0_0 : w1.cell? ⟨w.heap.size, 0, none⟩ = some (.int .i64 N.id) := by
    rw [hb1.cell (p := ⟨w.heap.size, 0, none⟩) (show w.heap.size < _ by (try simp) <;> (try omega))]
    first | assumption | (simp [go_sem, *])
  have q1_0_1 : w1.cell? ⟨w.heap.size, 1, none⟩ = some (.int .i64 N.nodes) := by
    rw [hb1.cell (p := ⟨w.heap.size, 1, none⟩) (show w.heap.size < _ by (try simp) <;> (try omega))]
    first | assumption | (simp [go_sem, *])
  have q1_0_2 : w1.cell? ⟨w.heap.size, 2, none⟩ = some (.int .i64 N.term) := by
    rw [hb1.cell (p := ⟨w.heap.size, 2, none⟩) (show w.heap.size < _ by (try simp) <;> (try omega))]
    first | assumption | (simp [go_sem, *])
  have q1_0_3 : w1.cell? ⟨w.heap.size, 3, none⟩ = some (.int .i64 N.vote) := by
    rw [hb1.cell (p := ⟨w.heap.size, 3, none⟩) (show w.heap.size < _ by (try simp) <;> (try omega))]
    first | assumption | (simp [go_sem, *])
  have q1_0_4 : w1.cell? ⟨w.heap.size, 4, none⟩ = some (.int .i64 N.role) := by
    rw [hb1.cell (p := ⟨w.heap.size, 4, none⟩) (show w.heap.size < _ by (try simp) <;> (try omega))]
    first | assumption | (simp [go_sem, *])
  have q1_0_5 : w1.cell? ⟨w.heap.size, 5, none⟩ = some (.bool N.up) := by
    rw [hb1.cell (p := ⟨w.heap.size, 5, none⟩) (show w.heap.size < _ by (try simp) <;> (try omega))]
    first | assumption | (simp [go_sem, *])
  have q1_0_6 : w1.cell? ⟨w.heap.size, 6, none⟩ = some (.slice al N.log.length cl) := by
    rw [hb1.cell (p := ⟨w.heap.size, 6, none⟩) (show w.heap.size < _ by (try simp) <;> (try omega))]
    first | assumption | (simp [go_sem, *])
  have q1_0_7 : w1.cell? ⟨w.heap.size, 7, none⟩ = some (.int .i64 N.commit) := by
    rw [hb1.cell (p := ⟨w.heap.size, 7, none⟩) (show w.heap.size < _ by (try simp) <;> (try omega))]
    first | assumption | (simp [go_sem, *])
  have q1_0_8 : w1.cell? ⟨w.heap.size, 8, none⟩ = some (.int .i64 N.elapsed) := by
    rw [hb1.cell (p := ⟨w.heap.size, 8, none⟩) (show w.heap.size < _ by (try simp) <;> (try omega))]
    first | assumption | (simp [go_sem, *])
  have q1_0_9 : w1.cell? ⟨w.heap.size, 9, none⟩ = some (.int .i64 N.wait) := by
    rw [hb1.cell (p := ⟨w.heap.size, 9, none⟩) (show w.heap.size < _ by (try simp) <;> (try omega))]
    first | assumption | (simp [go_sem, *])
  have q1_0_10 : w1.cell? ⟨w.heap.size, 10, none⟩ = some (.slice av N.votes.length cv) := by
    rw [hb1.cell (p := ⟨w.heap.size, 10, none⟩) (show w.heap.size < _ by (try simp) <;> (try omega))]
    first | assumption | (simp [go_sem, *])
  have q1_0_11 : w1.cell? ⟨w.heap.size, 11, none⟩ = some (.slice an N.next.length cn) := by
    rw [hb1.cell (p := ⟨w.heap.size, 11, none⟩) (show w.heap.size < _ by (try simp) <;> (try omega))]
    first | assumption | (simp [go_sem, *])
  have q1_0_12 : w1.cell? ⟨w.heap.size, 12, none⟩ = some (.slice am N.mtch.length cm) := by
    rw [hb1.cell (p := ⟨w.heap.size, 12, none⟩) (show w.heap.size < _ by (try simp) <;> (try omega))]
    first | assumption | (simp [go_sem, *])
  have hl1_0 : w.heap.size < w1.heap.size := by omega
  by_cases hneg : n < 0
  · go_wp2_with fail
    go_ret
    exact ⟨rfl, (by repeat (first | exact Below.refl _ _ | (refine Below.alloc ?_ (by (try simp) <;> (try omega)) _) | (refine Below.setCell ?_ (by (try simp) <;> (try omega)) _) | (refine Below.drew ?_) | (refine Below.trans ?_ (Below.mono (by assumption) (by (try simp) <;> (try omega))))))⟩
  have HZ := Lib.hid (HI.out (by omega))
  clear HI
  go_wp2_with fail
  refine (toNode_c al cl av cv an cn am cm N _ hN1 HZ.out).mono ?_
  rintro e w2 ⟨al2, cl2, av2, cv2, an2, cn2, am2, cm2, rfl, hf2, hb2⟩
  have hM2 := hf2.sl
  have hN2 := hN1.keep hb2
  clear hf2
  have hz2 := hb2.size
  try simp at hz2
  have q2_0_0 : w2.cell? ⟨w.heap.size, 0, none⟩ = some (.int .i64 N.id) := by
    rw [hb2.cell (p := ⟨w.heap.size, 0, none⟩) (show w.heap.size < _ by (try simp) <;> (try omega))]
    first | assumption | (simp [go_sem, *])
  have q2_0_1 : w2.cell? ⟨w.heap.size, 1, none⟩ = some (.int .i64 N.nodes) := by
    rw [hb2.cell (p := ⟨w.heap.size, 1, none⟩) (show w.heap.size < _ by (try simp) <;> (try omega))]
    first | assumption | (simp [go_sem, *])
  have q2_0_2 : w2.cell? ⟨w.heap.size, 2, none⟩ = some (.int .i64 N.term) := by
    rw [hb2.cell (p := ⟨w.heap.size, 2, none⟩) (show w.heap.size < _ by (try simp) <;> (try omega))]
    first | assumption | (simp [go_sem, *])
  have q2_0_3 : w2.cell? ⟨w.heap.size, 3, none⟩ = some (.int .i64 N.vote) := by
    rw [hb2.cell (p := ⟨w.heap.size, 3, none⟩) (show w.heap.size < _ by (try simp) <;> (try omega))]
    first | assumption | (simp [go_sem, *])
  have q2_0_4 : w2.cell? ⟨w.heap.size, 4, none⟩ = some (.int .i64 N.role) := by
    rw [hb2.cell (p := ⟨w.heap.size, 4, none⟩) (show w.heap.size < _ by (try simp) <;> (try omega))]
    first | assumption | (simp [go_sem, *])
  have q2_0_5 : w2.cell? ⟨w.heap.size, 5, none⟩ = some (.bool N.up) := by
    rw [hb2.cell (p := ⟨w.heap.size, 5, none⟩) (show w.heap.size < _ by (try simp) <;> (try omega))]
    first | assumption | (simp [go_sem, *])
  have q2_0_6 : w2.cell? ⟨w.heap.size, 6, none⟩ = some (.slice al N.log.length cl) := by
    rw [hb2.cell (p := ⟨w.heap.size, 6, none⟩) (show w.heap.size < _ by (try simp) <;> (try omega))]
    first | assumption | (simp [go_sem, *])
  have q2_0_7 : w2.cell? ⟨w.heap.size, 7, none⟩ = some (.int .i64 N.commit) := by
    rw [hb2.cell (p := ⟨w.heap.size, 7, none⟩) (show w.heap.size < _ by (try simp) <;> (try omega))]
    first | assumption | (simp [go_sem, *])
  have q2_0_8 : w2.cell? ⟨w.heap.size, 8, none⟩ = some (.int .i64 N.elapsed) := by
    rw [hb2.cell (p := ⟨w.heap.size, 8, none⟩) (show w.heap.size < _ by (try simp) <;> (try omega))]
    first | assumption | (simp [go_sem, *])
  have q2_0_9 : w2.cell? ⟨w.heap.size, 9, none⟩ = some (.int .i64 N.wait) := by
    rw [hb2.cell (p := ⟨w.heap.size, 9, none⟩) (show w.heap.size < _ by (try simp) <;> (try omega))]
    first | assumption | (simp [go_sem, *])
  have q2_0_10 : w2.cell? ⟨w.heap.size, 10, none⟩ = some (.slice av N.votes.length cv) := by
    rw [hb2.cell (p := ⟨w.heap.size, 10, none⟩) (show w.heap.size < _ by (try simp) <;> (try omega))]
    first | assumption | (simp [go_sem, *])
  have q2_0_11 : w2.cell? ⟨w.heap.size, 11, none⟩ = some (.slice an N.next.length cn) := by
    rw [hb2.cell (p := ⟨w.heap.size, 11, none⟩) (show w.heap.size < _ by (try simp) <;> (try omega))]
    first | assumption | (simp [go_sem, *])
  have q2_0_12 : w2.cell? ⟨w.heap.size, 12, none⟩ = some (.slice am N.mtch.length cm) := by
    rw [hb2.cell (p := ⟨w.heap.size, 12, none⟩) (show w.heap.size < _ by (try simp) <;> (try omega))]
    first | assumption | (simp [go_sem, *])
  have hl2_0 : w.heap.size < w2.heap.size := by omega
  clear q1_0_0 q1_0_1 q1_0_2 q1_0_3 q1_0_4 q1_0_5 q1_0_6 q1_0_7 q1_0_8 q1_0_9 q1_0_10 q1_0_11 q1_0_12
  go_wp2_with fail
  refine (specUp_c al2 cl2 av2 cv2 an2 cn2 am2 cm2 N i t _ hM2 HZ.out).mono ?_
  rintro e w3 ⟨rfl, hb3⟩
  rw [HP.out]
  have hN3 := hN2.keep hb3
  have hz3 := hb3.size
  try simp at hz3
  have q3_0_0 : w3.cell? ⟨w.heap.size, 0, none⟩ = some (.int .i64 N.id) := by
    rw [hb3.cell (p := ⟨w.heap.size, 0, none⟩) (show w.heap.size < _ by (try simp) <;> (try omega))]
    first | assumption | (simp [go_sem, *])
  have q3_0_1 : w3.cell? ⟨w.heap.size, 1, none⟩ = some (.int .i64 N.nodes) := by
    rw [hb3.cell (p := ⟨w.heap.size, 1, none⟩) (show w.heap.size < _ by (try simp) <;> (try omega))]
    first | assumption | (simp [go_sem, *])
  have q3_0_2 : w3.cell? ⟨w.heap.size, 2, none⟩ = some (.int .i64 N.term) := by
    rw [hb3.cell (p := ⟨w.heap.size, 2, none⟩) (show w.heap.size < _ by (try simp) <;> (try omega))]
    first | assumption | (simp [go_sem, *])
  have q3_0_3 : w3.cell? ⟨w.heap.size, 3, none⟩ = some (.int .i64 N.vote) := by
    rw [hb3.cell (p := ⟨w.heap.size, 3, none⟩) (show w.heap.size < _ by (try simp) <;> (try omega))]
    first | assumption | (simp [go_sem, *])
  have q3_0_4 : w3.cell? ⟨w.heap.size, 4, none⟩ = some (.int .i64 N.role) := by
    rw [hb3.cell (p := ⟨w.heap.size, 4, none⟩) (show w.heap.size < _ by (try simp) <;> (try omega))]
    first | assumption | (simp [go_sem, *])
  have q3_0_5 : w3.cell? ⟨w.heap.size, 5, none⟩ = some (.bool N.up) := by
    rw [hb3.cell (p := ⟨w.heap.size, 5, none⟩) (show w.heap.size < _ by (try simp) <;> (try omega))]
    first | assumption | (simp [go_sem, *])
  have q3_0_6 : w3.cell? ⟨w.heap.size, 6, none⟩ = some (.slice al N.log.length cl) := by
    rw [hb3.cell (p := ⟨w.heap.size, 6, none⟩) (show w.heap.size < _ by (try simp) <;> (try omega))]
    first | assumption | (simp [go_sem, *])
  have q3_0_7 : w3.cell? ⟨w.heap.size, 7, none⟩ = some (.int .i64 N.commit) := by
    rw [hb3.cell (p := ⟨w.heap.size, 7, none⟩) (show w.heap.size < _ by (try simp) <;> (try omega))]
    first | assumption | (simp [go_sem, *])
  have q3_0_8 : w3.cell? ⟨w.heap.size, 8, none⟩ = some (.int .i64 N.elapsed) := by
    rw [hb3.cell (p := ⟨w.heap.size, 8, none⟩) (show w.heap.size < _ by (try simp) <;> (try omega))]
    first | assumption | (simp [go_sem, *])
  have q3_0_9 : w3.cell? ⟨w.heap.size, 9, none⟩ = some (.int .i64 N.wait) := by
    rw [hb3.cell (p := ⟨w.heap.size, 9, none⟩) (show w.heap.size < _ by (try simp) <;> (try omega))]
    first | assumption | (simp [go_sem, *])
  have q3_0_10 : w3.cell? ⟨w.heap.size, 10, none⟩ = some (.slice av N.votes.length cv) := by
    rw [hb3.cell (p := ⟨w.heap.size, 10, none⟩) (show w.heap.size < _ by (try simp) <;> (try omega))]
    first | assumption | (simp [go_sem, *])
  have q3_0_11 : w3.cell? ⟨w.heap.size, 11, none⟩ = some (.slice an N.next.length cn) := by
    rw [hb3.cell (p := ⟨w.heap.size, 11, none⟩) (show w.heap.size < _ by (try simp) <;> (try omega))]
    first | assumption | (simp [go_sem, *])
  have q3_0_12 : w3.cell? ⟨w.heap.size, 12, none⟩ = some (.slice am N.mtch.length cm) := by
    rw [hb3.cell (p := ⟨w.heap.size, 12, none⟩) (show w.heap.size < _ by (try simp) <;> (try omega))]
    first | assumption | (simp [go_sem, *])
  have hl3_0 : w.heap.size < w3.heap.size := by omega
  clear q2_0_0 q2_0_1 q2_0_2 q2_0_3 q2_0_4 q2_0_5 q2_0_6 q2_0_7 q2_0_8 q2_0_9 q2_0_10 q2_0_11 q2_0_12
  go_wp2_with fail
  refine (toNode_c al cl av cv an cn am cm N _ hN3 HZ.out).mono ?_
  rintro e w4 ⟨al4, cl4, av4, cv4, an4, cn4, am4, cm4, rfl, hf4, hb4⟩
  have hM4 := hf4.sl
  have hN4 := hN3.keep hb4
  clear hf4
  have hz4 := hb4.size
  try simp at hz4
  have q4_0_0 : w4.cell? ⟨w.heap.size, 0, none⟩ = some (.int .i64 N.id) := by
    rw [hb4.cell (p := ⟨w.heap.size, 0, none⟩) (show w.heap.size < _ by (try simp) <;> (try omega))]
    first | assumption | (simp [go_sem, *])
  have q4_0_1 : w4.cell? ⟨w.heap.size, 1, none⟩ = some (.int .i64 N.nodes) := by
    rw [hb4.cell (p := ⟨w.heap.size, 1, none⟩) (show w.heap.size < _ by (try simp) <;> (try omega))]
    first | assumption | (simp [go_sem, *])
  have q4_0_2 : w4.cell? ⟨w.heap.size, 2, none⟩ = some (.int .i64 N.term) := by
    rw [hb4.cell (p := ⟨w.heap.size, 2, none⟩) (show w.heap.size < _ by (try simp) <;> (try omega))]
    first | assumption | (simp [go_sem, *])
  have q4_0_3 : w4.cell? ⟨w.heap.size, 3, none⟩ = some (.int .i64 N.vote) := by
    rw [hb4.cell (p := ⟨w.heap.size, 3, none⟩) (show w.heap.size < _ by (try simp) <;> (try omega))]
    first | assumption | (simp [go_sem, *])
  have q4_0_4 : w4.cell? ⟨w.heap.size, 4, none⟩ = some (.int .i64 N.role) := by
    rw [hb4.cell (p := ⟨w.heap.size, 4, none⟩) (show w.heap.size < _ by (try simp) <;> (try omega))]
    first | assumption | (simp [go_sem, *])
  have q4_0_5 : w4.cell? ⟨w.heap.size, 5, none⟩ = some (.bool N.up) := by
    rw [hb4.cell (p := ⟨w.heap.size, 5, none⟩) (show w.heap.size < _ by (try simp) <;> (try omega))]
    first | assumption | (simp [go_sem, *])
  have q4_0_6 : w4.cell? ⟨w.heap.size, 6, none⟩ = some (.slice al N.log.length cl) := by
    rw [hb4.cell (p := ⟨w.heap.size, 6, none⟩) (show w.heap.size < _ by (try simp) <;> (try omega))]
    first | assumption | (simp [go_sem, *])
  have q4_0_7 : w4.cell? ⟨w.heap.size, 7, none⟩ = some (.int .i64 N.commit) := by
    rw [hb4.cell (p := ⟨w.heap.size, 7, none⟩) (show w.heap.size < _ by (try simp) <;> (try omega))]
    first | assumption | (simp [go_sem, *])
  have q4_0_8 : w4.cell? ⟨w.heap.size, 8, none⟩ = some (.int .i64 N.elapsed) := by
    rw [hb4.cell (p := ⟨w.heap.size, 8, none⟩) (show w.heap.size < _ by (try simp) <;> (try omega))]
    first | assumption | (simp [go_sem, *])
  have q4_0_9 : w4.cell? ⟨w.heap.size, 9, none⟩ = some (.int .i64 N.wait) := by
    rw [hb4.cell (p := ⟨w.heap.size, 9, none⟩) (show w.heap.size < _ by (try simp) <;> (try omega))]
    first | assumption | (simp [go_sem, *])
  have q4_0_10 : w4.cell? ⟨w.heap.size, 10, none⟩ = some (.slice av N.votes.length cv) := by
    rw [hb4.cell (p := ⟨w.heap.size, 10, none⟩) (show w.heap.size < _ by (try simp) <;> (try omega))]
    first | assumption | (simp [go_sem, *])
  have q4_0_11 : w4.cell? ⟨w.heap.size, 11, none⟩ = some (.slice an N.next.length cn) := by
    rw [hb4.cell (p := ⟨w.heap.size, 11, none⟩) (show w.heap.size < _ by (try simp) <;> (try omega))]
    first | assumption | (simp [go_sem, *])
  have q4_0_12 : w4.cell? ⟨w.heap.size, 12, none⟩ = some (.slice am N.mtch.length cm) := by
    rw [hb4.cell (p := ⟨w.heap.size, 12, none⟩) (show w.heap.size < _ by (try simp) <;> (try omega))]
    first | assumption | (simp [go_sem, *])
  have hl4_0 : w.heap.size < w4.heap.size := by omega
  clear q3_0_0 q3_0_1 q3_0_2 q3_0_3 q3_0_4 q3_0_5 q3_0_6 q3_0_7 q3_0_8 q3_0_9 q3_0_10 q3_0_11 q3_0_12
  go_wp2_with fail
  refine (implUp_c al4 cl4 av4 cv4 an4 cn4 am4 cm4 N i t _ (hM4.alloc _) HZ.out).mono ?_
  rintro e w5 ⟨rfl, hb5⟩
  rw [HP.out]
  have hN5 := (hN4.alloc _).keep hb5
  have hM5 := (hM4.alloc _).keep hb5
  have hz5 := hb5.size
  try simp at hz5
  have q5_0_0 : w5.cell? ⟨w.heap.size, 0, none⟩ = some (.int .i64 N.id) := by
    rw [hb5.cell (p := ⟨w.heap.size, 0, none⟩) (show w.heap.size < _ by (try simp) <;> (try omega))]
    first | assumption | (simp [go_sem, *])
  have q5_0_1 : w5.cell? ⟨w.heap.size, 1, none⟩ = some (.int .i64 N.nodes) := by
    rw [hb5.cell (p := ⟨w.heap.size, 1, none⟩) (show w.heap.size < _ by (try simp) <;> (try omega))]
    first | assumption | (simp [go_sem, *])
  have q5_0_2 : w5.cell? ⟨w.heap.size, 2, none⟩ = some (.int .i64 N.term) := by
    rw [hb5.cell (p := ⟨w.heap.size, 2, none⟩) (show w.heap.size < _ by (try simp) <;> (try omega))]
    first | assumption | (simp [go_sem, *])
  have q5_0_3 : w5.cell? ⟨w.heap.size, 3, none⟩ = some (.int .i64 N.vote) := by
    rw [hb5.cell (p := ⟨w.heap.size, 3, none⟩) (show w.heap.size < _ by (try simp) <;> (try omega))]
    first | assumption | (simp [go_sem, *])
  have q5_0_4 : w5.cell? ⟨w.heap.size, 4, none⟩ = some (.int .i64 N.role) := by
    rw [hb5.cell (p := ⟨w.heap.size, 4, none⟩) (show w.heap.size < _ by (try simp) <;> (try omega))]
    first | assumption | (simp [go_sem, *])
  have q5_0_5 : w5.cell? ⟨w.heap.size, 5, none⟩ = some (.bool N.up) := by
    rw [hb5.cell (p := ⟨w.heap.size, 5, none⟩) (show w.heap.size < _ by (try simp) <;> (try omega))]
    first | assumption | (simp [go_sem, *])
  have q5_0_6 : w5.cell? ⟨w.heap.size, 6, none⟩ = some (.slice al N.log.length cl) := by
    rw [hb5.cell (p := ⟨w.heap.size, 6, none⟩) (show w.heap.size < _ by (try simp) <;> (try omega))]
    first | assumption | (simp [go_sem, *])
  have q5_0_7 : w5.cell? ⟨w.heap.size, 7, none⟩ = some (.int .i64 N.commit) := by
    rw [hb5.cell (p := ⟨w.heap.size, 7, none⟩) (show w.heap.size < _ by (try simp) <;> (try omega))]
    first | assumption | (simp [go_sem, *])
  have q5_0_8 : w5.cell? ⟨w.heap.size, 8, none⟩ = some (.int .i64 N.elapsed) := by
    rw [hb5.cell (p := ⟨w.heap.size, 8, none⟩) (show w.heap.size < _ by (try simp) <;> (try omega))]
    first | assumption | (simp [go_sem, *])
  have q5_0_9 : w5.cell? ⟨w.heap.size, 9, none⟩ = some (.int .i64 N.wait) := by
    rw [hb5.cell (p := ⟨w.heap.size, 9, none⟩) (show w.heap.size < _ by (try simp) <;> (try omega))]
    first | assumption | (simp [go_sem, *])
  have q5_0_10 : w5.cell? ⟨w.heap.size, 10, none⟩ = some (.slice av N.votes.length cv) := by
    rw [hb5.cell (p := ⟨w.heap.size, 10, none⟩) (show w.heap.size < _ by (try simp) <;> (try omega))]
    first | assumption | (simp [go_sem, *])
  have q5_0_11 : w5.cell? ⟨w.heap.size, 11, none⟩ = some (.slice an N.next.length cn) := by
    rw [hb5.cell (p := ⟨w.heap.size, 11, none⟩) (show w.heap.size < _ by (try simp) <;> (try omega))]
    first | assumption | (simp [go_sem, *])
  have q5_0_12 : w5.cell? ⟨w.heap.size, 12, none⟩ = some (.slice am N.mtch.length cm) := by
    rw [hb5.cell (p := ⟨w.heap.size, 12, none⟩) (show w.heap.size < _ by (try simp) <;> (try omega))]
    first | assumption | (simp [go_sem, *])
  have hl5_0 : w.heap.size < w5.heap.size := by omega
  have q5_1_0 : w5.cell? ⟨w4.heap.size, 0, none⟩ = some (.int .i64 N.id) := by
    rw [hb5.cell (p := ⟨w4.heap.size, 0, none⟩) (show w4.heap.size < _ by (try simp) <;> (try omega))]
    first | assumption | (simp [go_sem, *])
  have q5_1_1 : w5.cell? ⟨w4.heap.size, 1, none⟩ = some (.int .i64 N.nodes) := by
    rw [hb5.cell (p := ⟨w4.heap.size, 1, none⟩) (show w4.heap.size < _ by (try simp) <;> (try omega))]
    first | assumption | (simp [go_sem, *])
  have q5_1_2 : w5.cell? ⟨w4.heap.size, 2, none⟩ = some (.int .i64 N.term) := by
    rw [hb5.cell (p := ⟨w4.heap.size, 2, none⟩) (show w4.heap.size < _ by (try simp) <;> (try omega))]
    first | assumption | (simp [go_sem, *])
  have q5_1_3 : w5.cell? ⟨w4.heap.size, 3, none⟩ = some (.int .i64 N.vote) := by
    rw [hb5.cell (p := ⟨w4.heap.size, 3, none⟩) (show w4.heap.size < _ by (try simp) <;> (try omega))]
    first | assumption | (simp [go_sem, *])
  have q5_1_4 : w5.cell? ⟨w4.heap.size, 4, none⟩ = some (.int .i64 N.role) := by
    rw [hb5.cell (p := ⟨w4.heap.size, 4, none⟩) (show w4.heap.size < _ by (try simp) <;> (try omega))]
    first | assumption | (simp [go_sem, *])
  have q5_1_5 : w5.cell? ⟨w4.heap.size, 5, none⟩ = some (.bool N.up) := by
    rw [hb5.cell (p := ⟨w4.heap.size, 5, none⟩) (show w4.heap.size < _ by (try simp) <;> (try omega))]
    first | assumption | (simp [go_sem, *])
  have q5_1_6 : w5.cell? ⟨w4.heap.size, 6, none⟩ = some (.slice al4 N.log.length cl4) := by
    rw [hb5.cell (p := ⟨w4.heap.size, 6, none⟩) (show w4.heap.size < _ by (try simp) <;> (try omega))]
    first | assumption | (simp [go_sem, *])
  have q5_1_7 : w5.cell? ⟨w4.heap.size, 7, none⟩ = some (.int .i64 N.commit) := by
    rw [hb5.cell (p := ⟨w4.heap.size, 7, none⟩) (show w4.heap.size < _ by (try simp) <;> (try omega))]
    first | assumption | (simp [go_sem, *])
  have q5_1_8 : w5.cell? ⟨w4.heap.size, 8, none⟩ = some (.int .i64 N.elapsed) := by
    rw [hb5.cell (p := ⟨w4.heap.size, 8, none⟩) (show w4.heap.size < _ by (try simp) <;> (try omega))]
    first | assumption | (simp [go_sem, *])
  have q5_1_9 : w5.cell? ⟨w4.heap.size, 9, none⟩ = some (.int .i64 N.wait) := by
    rw [hb5.cell (p := ⟨w4.heap.size, 9, none⟩) (show w4.heap.size < _ by (try simp) <;> (try omega))]
    first | assumption | (simp [go_sem, *])
  have q5_1_10 : w5.cell? ⟨w4.heap.size, 10, none⟩ = some (.slice av4 N.votes.length cv4) := by
    rw [hb5.cell (p := ⟨w4.heap.size, 10, none⟩) (show w4.heap.size < _ by (try simp) <;> (try omega))]
    first | assumption | (simp [go_sem, *])
  have q5_1_11 : w5.cell? ⟨w4.heap.size, 11, none⟩ = some (.slice an4 N.next.length cn4) := by
    rw [hb5.cell (p := ⟨w4.heap.size, 11, none⟩) (show w4.heap.size < _ by (try simp) <;> (try omega))]
    first | assumption | (simp [go_sem, *])
  have q5_1_12 : w5.cell? ⟨w4.heap.size, 12, none⟩ = some (.slice am4 N.mtch.length cm4) := by
    rw [hb5.cell (p := ⟨w4.heap.size, 12, none⟩) (show w4.heap.size < _ by (try simp) <;> (try omega))]
    first | assumption | (simp [go_sem, *])
  have hl5_1 : w4.heap.size < w5.heap.size := by omega
  clear q4_0_0 q4_0_1 q4_0_2 q4_0_3 q4_0_4 q4_0_5 q4_0_6 q4_0_7 q4_0_8 q4_0_9 q4_0_10 q4_0_11 q4_0_12
  have HB5 : Hid (Below w.heap.size w w5) := (by repeat (first | exact Below.refl _ _ | (refine Below.alloc ?_ (by (try simp) <;> (try omega)) _) | (refine Below.setCell ?_ (by (try simp) <;> (try omega)) _) | (refine Below.drew ?_) | (refine Below.trans ?_ (Below.mono (by assumption) (by (try simp) <;> (try omega))))))
  clear hb1 hb2 hb3 hb4 hb5
  go_wp2_with fail
  go_region_held3 (fun w' => w'.cell? ⟨w.heap.size, 0, none⟩ = some (.int .i64 N.id) ∧ w'.cell? ⟨w.heap.size, 1, none⟩ = some (.int .i64 N.nodes) ∧ w'.cell? ⟨w.heap.size, 2, none⟩ = some (.int .i64 N.term) ∧ w'.cell? ⟨w.heap.size, 3, none⟩ = some (.int .i64 N.vote) ∧ w'.cell? ⟨w.heap.size, 4, none⟩ = some (.int .i64 N.role) ∧ w'.cell? ⟨w.heap.size, 5, none⟩ = some (.bool N.up) ∧ w'.cell? ⟨w.heap.size, 6, none⟩ = some (.slice al N.log.length cl) ∧ w'.cell? ⟨w.heap.size, 7, none⟩ = some (.int .i64 N.commit) ∧ w'.cell? ⟨w.heap.size, 8, none⟩ = some (.int .i64 N.elapsed) ∧ w'.cell? ⟨w.heap.size, 9, none⟩ = some (.int .i64 N.wait) ∧ w'.cell? ⟨w.heap.size, 10, none⟩ = some (.slice av N.votes.length cv) ∧ w'.cell? ⟨w.heap.size, 11, none⟩ = some (.slice an N.next.length cn) ∧ w'.cell? ⟨w.heap.size, 12, none⟩ = some (.slice am N.mtch.length cm) ∧ w'.cell? ⟨w4.heap.size, 0, none⟩ = some (.int .i64 N.id) ∧ w'.cell? ⟨w4.heap.size, 1, none⟩ = some (.int .i64 N.nodes) ∧ w'.cell? ⟨w4.heap.size, 2, none⟩ = some (.int .i64 N.term) ∧ w'.cell? ⟨w4.heap.size, 3, none⟩ = some (.int .i64 N.vote) ∧ w'.cell? ⟨w4.heap.size, 4, none⟩ = some (.int .i64 N.role) ∧ w'.cell? ⟨w4.heap.size, 5, none⟩ = some (.bool N.up) ∧ w'.cell? ⟨w4.heap.size, 6, none⟩ = some (.slice al4 N.log.length cl4) ∧ w'.cell? ⟨w4.heap.size, 7, none⟩ = some (.int .i64 N.commit) ∧ w'.cell? ⟨w4.heap.size, 8, none⟩ = some (.int .i64 N.elapsed) ∧ w'.cell? ⟨w4.heap.size, 9, none⟩ = some (.int .i64 N.wait) ∧ w'.cell? ⟨w4.heap.size, 10, none⟩ = some (.slice av4 N.votes.length cv4) ∧ w'.cell? ⟨w4.heap.size, 11, none⟩ = some (.slice an4 N.next.length cn4) ∧ w'.cell? ⟨w4.heap.size, 12, none⟩ = some (.slice am4 N.mtch.length cm4))
    (first | go_keep | (repeat' apply And.intro) <;> assumption)
    (first
    | (go_at_call 47
       refine (toNode_c al cl av cv an cn am cm N _ hN5.drew HZ.out).mono ?_
       rintro e w6 ⟨al6, cl6, av6, cv6, an6, cn6, am6, cm6, rfl, hf6, hb6⟩
       have hz6 := hb6.size
       try simp at hz6
       have q6_0_0 : w6.cell? ⟨w.heap.size, 0, none⟩ = some (.int .i64 N.id) := by
         rw [hb6.cell (p := ⟨w.heap.size, 0, none⟩) (show w.heap.size < _ by (try simp) <;> (try omega))]
         first | assumption | (simp [go_sem, *])
       have q6_0_1 : w6.cell? ⟨w.heap.size, 1, none⟩ = some (.int .i64 N.nodes) := by
         rw [hb6.cell (p := ⟨w.heap.size, 1, none⟩) (show w.heap.size < _ by (try simp) <;> (try omega))]
         first | assumption | (simp [go_sem, *])
       have q6_0_2 : w6.cell? ⟨w.heap.size, 2, none⟩ = some (.int .i64 N.term) := by
         rw [hb6.cell (p := ⟨w.heap.size, 2, none⟩) (show w.heap.size < _ by (try simp) <;> (try omega))]
         first | assumption | (simp [go_sem, *])
       have q6_0_3 : w6.cell? ⟨w.heap.size, 3, none⟩ = some (.int .i64 N.vote) := by
         rw [hb6.cell (p := ⟨w.heap.size, 3, none⟩) (show w.heap.size < _ by (try simp) <;> (try omega))]
         first | assumption | (simp [go_sem, *])
       have q6_0_4 : w6.cell? ⟨w.heap.size, 4, none⟩ = some (.int .i64 N.role) := by
         rw [hb6.cell (p := ⟨w.heap.size, 4, none⟩) (show w.heap.size < _ by (try simp) <;> (try omega))]
         first | assumption | (simp [go_sem, *])
       have q6_0_5 : w6.cell? ⟨w.heap.size, 5, none⟩ = some (.bool N.up) := by
         rw [hb6.cell (p := ⟨w.heap.size, 5, none⟩) (show w.heap.size < _ by (try simp) <;> (try omega))]
         first | assumption | (simp [go_sem, *])
       have q6_0_6 : w6.cell? ⟨w.heap.size, 6, none⟩ = some (.slice al N.log.length cl) := by
         rw [hb6.cell (p := ⟨w.heap.size, 6, none⟩) (show w.heap.size < _ by (try simp) <;> (try omega))]
         first | assumption | (simp [go_sem, *])
       have q6_0_7 : w6.cell? ⟨w.heap.size, 7, none⟩ = some (.int .i64 N.commit) := by
         rw [hb6.cell (p := ⟨w.heap.size, 7, none⟩) (show w.heap.size < _ by (try simp) <;> (try omega))]
         first | assumption | (simp [go_sem, *])
       have q6_0_8 : w6.cell? ⟨w.heap.size, 8, none⟩ = some (.int .i64 N.elapsed) := by
         rw [hb6.cell (p := ⟨w.heap.size, 8, none⟩) (show w.heap.size < _ by (try simp) <;> (try omega))]
         first | assumption | (simp [go_sem, *])
       have q6_0_9 : w6.cell? ⟨w.heap.size, 9, none⟩ = some (.int .i64 N.wait) := by
         rw [hb6.cell (p := ⟨w.heap.size, 9, none⟩) (show w.heap.size < _ by (try simp) <;> (try omega))]
         first | assumption | (simp [go_sem, *])
       have q6_0_10 : w6.cell? ⟨w.heap.size, 10, none⟩ = some (.slice av N.votes.length cv) := by
         rw [hb6.cell (p := ⟨w.heap.size, 10, none⟩) (show w.heap.size < _ by (try simp) <;> (try omega))]
         first | assumption | (simp [go_sem, *])
       have q6_0_11 : w6.cell? ⟨w.heap.size, 11, none⟩ = some (.slice an N.next.length cn) := by
         rw [hb6.cell (p := ⟨w.heap.size, 11, none⟩) (show w.heap.size < _ by (try simp) <;> (try omega))]
         first | assumption | (simp [go_sem, *])
       have q6_0_12 : w6.cell? ⟨w.heap.size, 12, none⟩ = some (.slice am N.mtch.length cm) := by
         rw [hb6.cell (p := ⟨w.heap.size, 12, none⟩) (show w.heap.size < _ by (try simp) <;> (try omega))]
         first | assumption | (simp [go_sem, *])
       have hl6_0 : w.heap.size < w6.heap.size := by omega
       have q6_1_0 : w6.cell? ⟨w4.heap.size, 0, none⟩ = some (.int .i64 N.id) := by
         rw [hb6.cell (p := ⟨w4.heap.size, 0, none⟩) (show w4.heap.size < _ by (try simp) <;> (try omega))]
         first | assumption | (simp [go_sem, *])
       have q6_1_1 : w6.cell? ⟨w4.heap.size, 1, none⟩ = some (.int .i64 N.nodes) := by
         rw [hb6.cell (p := ⟨w4.heap.size, 1, none⟩) (show w4.heap.size < _ by (try simp) <;> (try omega))]
         first | assumption | (simp [go_sem, *])
       have q6_1_2 : w6.cell? ⟨w4.heap.size, 2, none⟩ = some (.int .i64 N.term) := by
         rw [hb6.cell (p := ⟨w4.heap.size, 2, none⟩) (show w4.heap.size < _ by (try simp) <;> (try omega))]
         first | assumption | (simp [go_sem, *])
       have q6_1_3 : w6.cell? ⟨w4.heap.size, 3, none⟩ = some (.int .i64 N.vote) := by
         rw [hb6.cell (p := ⟨w4.heap.size, 3, none⟩) (show w4.heap.size < _ by (try simp) <;> (try omega))]
         first | assumption | (simp [go_sem, *])
       have q6_1_4 : w6.cell? ⟨w4.heap.size, 4, none⟩ = some (.int .i64 N.role) := by
         rw [hb6.cell (p := ⟨w4.heap.size, 4, none⟩) (show w4.heap.size < _ by (try simp) <;> (try omega))]
         first | assumption | (simp [go_sem, *])
       have q6_1_5 : w6.cell? ⟨w4.heap.size, 5, none⟩ = some (.bool N.up) := by
         rw [hb6.cell (p := ⟨w4.heap.size, 5, none⟩) (show w4.heap.size < _ by (try simp) <;> (try omega))]
         first | assumption | (simp [go_sem, *])
       have q6_1_6 : w6.cell? ⟨w4.heap.size, 6, none⟩ = some (.slice al4 N.log.length cl4) := by
         rw [hb6.cell (p := ⟨w4.heap.size, 6, none⟩) (show w4.heap.size < _ by (try simp) <;> (try omega))]
         first | assumption | (simp [go_sem, *])
       have q6_1_7 : w6.cell? ⟨w4.heap.size, 7, none⟩ = some (.int .i64 N.commit) := by
         rw [hb6.cell (p := ⟨w4.heap.size, 7, none⟩) (show w4.heap.size < _ by (try simp) <;> (try omega))]
         first | assumption | (simp [go_sem, *])
       have q6_1_8 : w6.cell? ⟨w4.heap.size, 8, none⟩ = some (.int .i64 N.elapsed) := by
         rw [hb6.cell (p := ⟨w4.heap.size, 8, none⟩) (show w4.heap.size < _ by (try simp) <;> (try omega))]
         first | assumption | (simp [go_sem, *])
       have q6_1_9 : w6.cell? ⟨w4.heap.size, 9, none⟩ = some (.int .i64 N.wait) := by
         rw [hb6.cell (p := ⟨w4.heap.size, 9, none⟩) (show w4.heap.size < _ by (try simp) <;> (try omega))]
         first | assumption | (simp [go_sem, *])
       have q6_1_10 : w6.cell? ⟨w4.heap.size, 10, none⟩ = some (.slice av4 N.votes.length cv4) := by
         rw [hb6.cell (p := ⟨w4.heap.size, 10, none⟩) (show w4.heap.size < _ by (try simp) <;> (try omega))]
         first | assumption | (simp [go_sem, *])
       have q6_1_11 : w6.cell? ⟨w4.heap.size, 11, none⟩ = some (.slice an4 N.next.length cn4) := by
         rw [hb6.cell (p := ⟨w4.heap.size, 11, none⟩) (show w4.heap.size < _ by (try simp) <;> (try omega))]
         first | assumption | (simp [go_sem, *])
       have q6_1_12 : w6.cell? ⟨w4.heap.size, 12, none⟩ = some (.slice am4 N.mtch.length cm4) := by
         rw [hb6.cell (p := ⟨w4.heap.size, 12, none⟩) (show w4.heap.size < _ by (try simp) <;> (try omega))]
         first | assumption | (simp [go_sem, *])
       have hl6_1 : w4.heap.size < w6.heap.size := by omega)
    | (go_at_call 49
       refine (eqNode_same al4 cl4 av4 cv4 an4 cn4 am4 cm4 al6 cl6 av6 cv6 an6 cn6 am6 cm6 N _ (hM5.drew.keep hb6) hf6.sl HZ.out).mono ?_
       rintro e w7 ⟨rfl, hb7⟩
       have hz7 := hb7.size
       try simp at hz7
       have q7_0_0 : w7.cell? ⟨w.heap.size, 0, none⟩ = some (.int .i64 N.id) := by
         rw [hb7.cell (p := ⟨w.heap.size, 0, none⟩) (show w.heap.size < _ by (try simp) <;> (try omega))]
         first | assumption | (simp [go_sem, *])
       have q7_0_1 : w7.cell? ⟨w.heap.size, 1, none⟩ = some (.int .i64 N.nodes) := by
         rw [hb7.cell (p := ⟨w.heap.size, 1, none⟩) (show w.heap.size < _ by (try simp) <;> (try omega))]
         first | assumption | (simp [go_sem, *])
       have q7_0_2 : w7.cell? ⟨w.heap.size, 2, none⟩ = some (.int .i64 N.term) := by
         rw [hb7.cell (p := ⟨w.heap.size, 2, none⟩) (show w.heap.size < _ by (try simp) <;> (try omega))]
         first | assumption | (simp [go_sem, *])
       have q7_0_3 : w7.cell? ⟨w.heap.size, 3, none⟩ = some (.int .i64 N.vote) := by
         rw [hb7.cell (p := ⟨w.heap.size, 3, none⟩) (show w.heap.size < _ by (try simp) <;> (try omega))]
         first | assumption | (simp [go_sem, *])
       have q7_0_4 : w7.cell? ⟨w.heap.size, 4, none⟩ = some (.int .i64 N.role) := by
         rw [hb7.cell (p := ⟨w.heap.size, 4, none⟩) (show w.heap.size < _ by (try simp) <;> (try omega))]
         first | assumption | (simp [go_sem, *])
       have q7_0_5 : w7.cell? ⟨w.heap.size, 5, none⟩ = some (.bool N.up) := by
         rw [hb7.cell (p := ⟨w.heap.size, 5, none⟩) (show w.heap.size < _ by (try simp) <;> (try omega))]
         first | assumption | (simp [go_sem, *])
       have q7_0_6 : w7.cell? ⟨w.heap.size, 6, none⟩ = some (.slice al N.log.length cl) := by
         rw [hb7.cell (p := ⟨w.heap.size, 6, none⟩) (show w.heap.size < _ by (try simp) <;> (try omega))]
         first | assumption | (simp [go_sem, *])
       have q7_0_7 : w7.cell? ⟨w.heap.size, 7, none⟩ = some (.int .i64 N.commit) := by
         rw [hb7.cell (p := ⟨w.heap.size, 7, none⟩) (show w.heap.size < _ by (try simp) <;> (try omega))]
         first | assumption | (simp [go_sem, *])
       have q7_0_8 : w7.cell? ⟨w.heap.size, 8, none⟩ = some (.int .i64 N.elapsed) := by
         rw [hb7.cell (p := ⟨w.heap.size, 8, none⟩) (show w.heap.size < _ by (try simp) <;> (try omega))]
         first | assumption | (simp [go_sem, *])
       have q7_0_9 : w7.cell? ⟨w.heap.size, 9, none⟩ = some (.int .i64 N.wait) := by
         rw [hb7.cell (p := ⟨w.heap.size, 9, none⟩) (show w.heap.size < _ by (try simp) <;> (try omega))]
         first | assumption | (simp [go_sem, *])
       have q7_0_10 : w7.cell? ⟨w.heap.size, 10, none⟩ = some (.slice av N.votes.length cv) := by
         rw [hb7.cell (p := ⟨w.heap.size, 10, none⟩) (show w.heap.size < _ by (try simp) <;> (try omega))]
         first | assumption | (simp [go_sem, *])
       have q7_0_11 : w7.cell? ⟨w.heap.size, 11, none⟩ = some (.slice an N.next.length cn) := by
         rw [hb7.cell (p := ⟨w.heap.size, 11, none⟩) (show w.heap.size < _ by (try simp) <;> (try omega))]
         first | assumption | (simp [go_sem, *])
       have q7_0_12 : w7.cell? ⟨w.heap.size, 12, none⟩ = some (.slice am N.mtch.length cm) := by
         rw [hb7.cell (p := ⟨w.heap.size, 12, none⟩) (show w.heap.size < _ by (try simp) <;> (try omega))]
         first | assumption | (simp [go_sem, *])
       have hl7_0 : w.heap.size < w7.heap.size := by omega
       have q7_1_0 : w7.cell? ⟨w4.heap.size, 0, none⟩ = some (.int .i64 N.id) := by
         rw [hb7.cell (p := ⟨w4.heap.size, 0, none⟩) (show w4.heap.size < _ by (try simp) <;> (try omega))]
         first | assumption | (simp [go_sem, *])
       have q7_1_1 : w7.cell? ⟨w4.heap.size, 1, none⟩ = some (.int .i64 N.nodes) := by
         rw [hb7.cell (p := ⟨w4.heap.size, 1, none⟩) (show w4.heap.size < _ by (try simp) <;> (try omega))]
         first | assumption | (simp [go_sem, *])
       have q7_1_2 : w7.cell? ⟨w4.heap.size, 2, none⟩ = some (.int .i64 N.term) := by
         rw [hb7.cell (p := ⟨w4.heap.size, 2, none⟩) (show w4.heap.size < _ by (try simp) <;> (try omega))]
         first | assumption | (simp [go_sem, *])
       have q7_1_3 : w7.cell? ⟨w4.heap.size, 3, none⟩ = some (.int .i64 N.vote) := by
         rw [hb7.cell (p := ⟨w4.heap.size, 3, none⟩) (show w4.heap.size < _ by (try simp) <;> (try omega))]
         first | assumption | (simp [go_sem, *])
       have q7_1_4 : w7.cell? ⟨w4.heap.size, 4, none⟩ = some (.int .i64 N.role) := by
         rw [hb7.cell (p := ⟨w4.heap.size, 4, none⟩) (show w4.heap.size < _ by (try simp) <;> (try omega))]
         first | assumption | (simp [go_sem, *])
       have q7_1_5 : w7.cell? ⟨w4.heap.size, 5, none⟩ = some (.bool N.up) := by
         rw [hb7.cell (p := ⟨w4.heap.size, 5, none⟩) (show w4.heap.size < _ by (try simp) <;> (try omega))]
         first | assumption | (simp [go_sem, *])
       have q7_1_6 : w7.cell? ⟨w4.heap.size, 6, none⟩ = some (.slice al4 N.log.length cl4) := by
         rw [hb7.cell (p := ⟨w4.heap.size, 6, none⟩) (show w4.heap.size < _ by (try simp) <;> (try omega))]
         first | assumption | (simp [go_sem, *])
       have q7_1_7 : w7.cell? ⟨w4.heap.size, 7, none⟩ = some (.int .i64 N.commit) := by
         rw [hb7.cell (p := ⟨w4.heap.size, 7, none⟩) (show w4.heap.size < _ by (try simp) <;> (try omega))]
         first | assumption | (simp [go_sem, *])
       have q7_1_8 : w7.cell? ⟨w4.heap.size, 8, none⟩ = some (.int .i64 N.elapsed) := by
         rw [hb7.cell (p := ⟨w4.heap.size, 8, none⟩) (show w4.heap.size < _ by (try simp) <;> (try omega))]
         first | assumption | (simp [go_sem, *])
       have q7_1_9 : w7.cell? ⟨w4.heap.size, 9, none⟩ = some (.int .i64 N.wait) := by
         rw [hb7.cell (p := ⟨w4.heap.size, 9, none⟩) (show w4.heap.size < _ by (try simp) <;> (try omega))]
         first | assumption | (simp [go_sem, *])
       have q7_1_10 : w7.cell? ⟨w4.heap.size, 10, none⟩ = some (.slice av4 N.votes.length cv4) := by
         rw [hb7.cell (p := ⟨w4.heap.size, 10, none⟩) (show w4.heap.size < _ by (try simp) <;> (try omega))]
         first | assumption | (simp [go_sem, *])
       have q7_1_11 : w7.cell? ⟨w4.heap.size, 11, none⟩ = some (.slice an4 N.next.length cn4) := by
         rw [hb7.cell (p := ⟨w4.heap.size, 11, none⟩) (show w4.heap.size < _ by (try simp) <;> (try omega))]
         first | assumption | (simp [go_sem, *])
       have q7_1_12 : w7.cell? ⟨w4.heap.size, 12, none⟩ = some (.slice am4 N.mtch.length cm4) := by
         rw [hb7.cell (p := ⟨w4.heap.size, 12, none⟩) (show w4.heap.size < _ by (try simp) <;> (try omega))]
         first | assumption | (simp [go_sem, *])
       have hl7_1 : w4.heap.size < w7.heap.size := by omega))
  go_wp2_with fail
  go_ret
  have hx : Below w5.heap.size w5 w7 := (((Below.refl _ _).drew).trans (hb6.mono (by simp))).trans (hb7.mono (by omega))
  exact ⟨rfl, HB5.out.trans (hx.mono (by omega))⟩
end Go.Proofs.Ytmkgmecpjppgcaa
