/- impl.NodeOK; the laws' comparison of a node with one of the same value. -/
import Derived.Test.YtcakldgbhjkkfaaNodeOK2
import Derived.Test.YtcakldgbhjkkfaaSlInt
namespace Go.Proofs.Ytcakldgbhjkkfaa
set_option linter.unusedVariables false
set_option linter.unusedSimpArgs false
open Go.RowKit
set_option maxRecDepth 100000 in
set_option maxHeartbeats 4000000 in
theorem eqNode_same (al : Option Addr) (cl : Nat) (av : Option Addr) (cv : Nat) (an : Option Addr) (cn : Nat) (am : Option Addr) (cm : Nat) (al1 : Option Addr) (cl1 : Nat) (av1 : Option Addr) (cv1 : Nat) (an1 : Option Addr) (cn1 : Nat) (am1 : Option Addr) (cm1 : Nat) (N : NodeV) (w : World) (hN : NodeSl w al av an am N) (hN1 : NodeSl w al1 av1 an1 am1 N) (hZ : NodeSz N 1048576) :
    Calls Try.prog 8 #[.agg #[.int .i64 N.id, .int .i64 N.nodes, .int .i64 N.term, .int .i64 N.vote, .int .i64 N.role, .bool N.up, .slice al N.log.length cl, .int .i64 N.commit, .int .i64 N.elapsed, .int .i64 N.wait, .slice av N.votes.length cv, .slice an N.next.length cn, .slice am N.mtch.length cm], .agg #[.int .i64 N.id, .int .i64 N.nodes, .int .i64 N.term, .int .i64 N.vote, .int .i64 N.role, .bool N.up, .slice al1 N.log.length cl1, .int .i64 N.commit, .int .i64 N.elapsed, .int .i64 N.wait, .slice av1 N.votes.length cv1, .slice an1 N.next.length cn1, .slice am1 N.mtch.length cm1]] w fun e w' => e = .returned (.bool true) ∧ Below w.heap.size w w' := by
  have HZ := Lib.hid hZ
  clear hZ
  go_enter Try.func8, Try.ntmps8
  go_wp2_with (first
    | (go_at_call 28
       refine (eqEntryS_c al al1 cl cl1 N.log N.log _ ((hN.alloc _).alloc _).log ((hN1.alloc _).alloc _).log HZ.out.log HZ.out.log).mono ?_
       rintro e w1 ⟨rfl, hb1⟩
       simp only [decide_true]
       have HN1 := Lib.hid (((hN.alloc _).alloc _).keep hb1)
       have HM1 := Lib.hid (((hN1.alloc _).alloc _).keep hb1)
       have hz1 := hb1.size
       try simp at hz1
       have q1_0_0 : w1.cell? ⟨w.heap.size, 0, none⟩ = some (.int .i64 N.id) := by
         rw [hb1.cell (p := ⟨w.heap.size, 0, none⟩) (show w.heap.size < _ by (try simp) <;> (try omega))]
         first | assumption | (simp [go_sem, *])
       have q1_0_1 : w1.cell? ⟨w.heap.size, 1, none⟩ = some (.int .i64 N.nodes) := by
         rw [hb1.cell (p := ⟨w.heap.size, 1, none⟩) (show w.heap.size < _ by (try simp) <;> (try omega))]
         first | assumption | (simp [go_sem, *])
       have q1_0_2 : w1.cell? ⟨w.heap.size, 2, none⟩ = some (.int .i64 N.term) := by
         rw [hb1.cell (p := ⟨w.heap.size, 2, none⟩) (show w.heap.size < _ by (try simp) <;> (try omega))]
         first | assumption | (simp [go_sem, *])
       have q1_0_3 : w1.cell? ⟨w.heap.size, 3, none⟩ = some (.int .i64 N.vote) := by
         rw [hb1.cell (p := ⟨w.heap.size, 3, none⟩) (show w.heap.size < _ by (try simp) <;> (try omega))]
         first | assumption | (simp [go_sem, *])
       have q1_0_4 : w1.cell? ⟨w.heap.size, 4, none⟩ = some (.int .i64 N.role) := by
         rw [hb1.cell (p := ⟨w.heap.size, 4, none⟩) (show w.heap.size < _ by (try simp) <;> (try omega))]
         first | assumption | (simp [go_sem, *])
       have q1_0_5 : w1.cell? ⟨w.heap.size, 5, none⟩ = some (.bool N.up) := by
         rw [hb1.cell (p := ⟨w.heap.size, 5, none⟩) (show w.heap.size < _ by (try simp) <;> (try omega))]
         first | assumption | (simp [go_sem, *])
       have q1_0_6 : w1.cell? ⟨w.heap.size, 6, none⟩ = some (.slice al N.log.length cl) := by
         rw [hb1.cell (p := ⟨w.heap.size, 6, none⟩) (show w.heap.size < _ by (try simp) <;> (try omega))]
         first | assumption | (simp [go_sem, *])
       have q1_0_7 : w1.cell? ⟨w.heap.size, 7, none⟩ = some (.int .i64 N.commit) := by
         rw [hb1.cell (p := ⟨w.heap.size, 7, none⟩) (show w.heap.size < _ by (try simp) <;> (try omega))]
         first | assumption | (simp [go_sem, *])
       have q1_0_8 : w1.cell? ⟨w.heap.size, 8, none⟩ = some (.int .i64 N.elapsed) := by
         rw [hb1.cell (p := ⟨w.heap.size, 8, none⟩) (show w.heap.size < _ by (try simp) <;> (try omega))]
         first | assumption | (simp [go_sem, *])
       have q1_0_9 : w1.cell? ⟨w.heap.size, 9, none⟩ = some (.int .i64 N.wait) := by
         rw [hb1.cell (p := ⟨w.heap.size, 9, none⟩) (show w.heap.size < _ by (try simp) <;> (try omega))]
         first | assumption | (simp [go_sem, *])
       have q1_0_10 : w1.cell? ⟨w.heap.size, 10, none⟩ = some (.slice av N.votes.length cv) := by
         rw [hb1.cell (p := ⟨w.heap.size, 10, none⟩) (show w.heap.size < _ by (try simp) <;> (try omega))]
         first | assumption | (simp [go_sem, *])
       have q1_0_11 : w1.cell? ⟨w.heap.size, 11, none⟩ = some (.slice an N.next.length cn) := by
         rw [hb1.cell (p := ⟨w.heap.size, 11, none⟩) (show w.heap.size < _ by (try simp) <;> (try omega))]
         first | assumption | (simp [go_sem, *])
       have q1_0_12 : w1.cell? ⟨w.heap.size, 12, none⟩ = some (.slice am N.mtch.length cm) := by
         rw [hb1.cell (p := ⟨w.heap.size, 12, none⟩) (show w.heap.size < _ by (try simp) <;> (try omega))]
         first | assumption | (simp [go_sem, *])
       have hl1_0 : w.heap.size < w1.heap.size := by omega
       have q1_1_0 : w1.cell? ⟨w.heap.size + 1, 0, none⟩ = some (.int .i64 N.id) := by
         rw [hb1.cell (p := ⟨w.heap.size + 1, 0, none⟩) (show w.heap.size + 1 < _ by (try simp) <;> (try omega))]
         first | assumption | (simp [go_sem, *])
       have q1_1_1 : w1.cell? ⟨w.heap.size + 1, 1, none⟩ = some (.int .i64 N.nodes) := by
         rw [hb1.cell (p := ⟨w.heap.size + 1, 1, none⟩) (show w.heap.size + 1 < _ by (try simp) <;> (try omega))]
         first | assumption | (simp [go_sem, *])
       have q1_1_2 : w1.cell? ⟨w.heap.size + 1, 2, none⟩ = some (.int .i64 N.term) := by
         rw [hb1.cell (p := ⟨w.heap.size + 1, 2, none⟩) (show w.heap.size + 1 < _ by (try simp) <;> (try omega))]
         first | assumption | (simp [go_sem, *])
       have q1_1_3 : w1.cell? ⟨w.heap.size + 1, 3, none⟩ = some (.int .i64 N.vote) := by
         rw [hb1.cell (p := ⟨w.heap.size + 1, 3, none⟩) (show w.heap.size + 1 < _ by (try simp) <;> (try omega))]
         first | assumption | (simp [go_sem, *])
       have q1_1_4 : w1.cell? ⟨w.heap.size + 1, 4, none⟩ = some (.int .i64 N.role) := by
         rw [hb1.cell (p := ⟨w.heap.size + 1, 4, none⟩) (show w.heap.size + 1 < _ by (try simp) <;> (try omega))]
         first | assumption | (simp [go_sem, *])
       have q1_1_5 : w1.cell? ⟨w.heap.size + 1, 5, none⟩ = some (.bool N.up) := by
         rw [hb1.cell (p := ⟨w.heap.size + 1, 5, none⟩) (show w.heap.size + 1 < _ by (try simp) <;> (try omega))]
         first | assumption | (simp [go_sem, *])
       have q1_1_6 : w1.cell? ⟨w.heap.size + 1, 6, none⟩ = some (.slice al1 N.log.length cl1) := by
         rw [hb1.cell (p := ⟨w.heap.size + 1, 6, none⟩) (show w.heap.size + 1 < _ by (try simp) <;> (try omega))]
         first | assumption | (simp [go_sem, *])
       have q1_1_7 : w1.cell? ⟨w.heap.size + 1, 7, none⟩ = some (.int .i64 N.commit) := by
         rw [hb1.cell (p := ⟨w.heap.size + 1, 7, none⟩) (show w.heap.size + 1 < _ by (try simp) <;> (try omega))]
         first | assumption | (simp [go_sem, *])
       have q1_1_8 : w1.cell? ⟨w.heap.size + 1, 8, none⟩ = some (.int .i64 N.elapsed) := by
         rw [hb1.cell (p := ⟨w.heap.size + 1, 8, none⟩) (show w.heap.size + 1 < _ by (try simp) <;> (try omega))]
         first | assumption | (simp [go_sem, *])
       have q1_1_9 : w1.cell? ⟨w.heap.size + 1, 9, none⟩ = some (.int .i64 N.wait) := by
         rw [hb1.cell (p := ⟨w.heap.size + 1, 9, none⟩) (show w.heap.size + 1 < _ by (try simp) <;> (try omega))]
         first | assumption | (simp [go_sem, *])
       have q1_1_10 : w1.cell? ⟨w.heap.size + 1, 10, none⟩ = some (.slice av1 N.votes.length cv1) := by
         rw [hb1.cell (p := ⟨w.heap.size + 1, 10, none⟩) (show w.heap.size + 1 < _ by (try simp) <;> (try omega))]
         first | assumption | (simp [go_sem, *])
       have q1_1_11 : w1.cell? ⟨w.heap.size + 1, 11, none⟩ = some (.slice an1 N.next.length cn1) := by
         rw [hb1.cell (p := ⟨w.heap.size + 1, 11, none⟩) (show w.heap.size + 1 < _ by (try simp) <;> (try omega))]
         first | assumption | (simp [go_sem, *])
       have q1_1_12 : w1.cell? ⟨w.heap.size + 1, 12, none⟩ = some (.slice am1 N.mtch.length cm1) := by
         rw [hb1.cell (p := ⟨w.heap.size + 1, 12, none⟩) (show w.heap.size + 1 < _ by (try simp) <;> (try omega))]
         first | assumption | (simp [go_sem, *])
       have hl1_1 : w.heap.size + 1 < w1.heap.size := by omega
       have HB1 : Hid (Below w.heap.size w w1) := (by repeat (first | exact Below.refl _ _ | (refine Below.alloc ?_ (by (try simp) <;> (try omega)) _) | (refine Below.setCell ?_ (by (try simp) <;> (try omega)) _) | (refine Below.drew ?_) | (refine Below.trans ?_ (Below.mono (by assumption) (by (try simp) <;> (try omega)))))))
    | (go_at_call 29
       refine (eqIntS_c am am1 cm cm1 N.mtch N.mtch _ HN3.out.mtch HM3.out.mtch HZ.out.mtch HZ.out.mtch).mono ?_
       rintro e w4 ⟨rfl, hb4⟩
       simp only [decide_true])
    | (go_at_call 29
       refine (eqIntS_c an an1 cn cn1 N.next N.next _ HN2.out.next HM2.out.next HZ.out.next HZ.out.next).mono ?_
       rintro e w3 ⟨rfl, hb3⟩
       simp only [decide_true]
       have HN3 := Lib.hid (HN2.out.keep hb3)
       have HM3 := Lib.hid (HM2.out.keep hb3)
       have hz3 := hb3.size
       try simp at hz3
       have q3_0_0 : w3.cell? ⟨w.heap.size, 0, none⟩ = some (.int .i64 N.id) := by
         rw [hb3.cell (p := ⟨w.heap.size, 0, none⟩) (show w.heap.size < _ by (try simp) <;> (try omega))]
         first | assumption | (simp [go_sem, *])
       have q3_0_1 : w3.cell? ⟨w.heap.size, 1, none⟩ = some (.int .i64 N.nodes) := by
         rw [hb3.cell (p := ⟨w.heap.size, 1, none⟩) (show w.heap.size < _ by (try simp) <;> (try omega))]
         first | assumption | (simp [go_sem, *])
       have q3_0_2 : w3.cell? ⟨w.heap.size, 2, none⟩ = some (.int .i64 N.term) := by
         rw [hb3.cell (p := ⟨w.heap.size, 2, none⟩) (show w.heap.size < _ by (try simp) <;> (try omega))]
         first | assumption | (simp [go_sem, *])
       have q3_0_3 : w3.cell? ⟨w.heap.size, 3, none⟩ = some (.int .i64 N.vote) := by
         rw [hb3.cell (p := ⟨w.heap.size, 3, none⟩) (show w.heap.size < _ by (try simp) <;> (try omega))]
         first | assumption | (simp [go_sem, *])
       have q3_0_4 : w3.cell? ⟨w.heap.size, 4, none⟩ = some (.int .i64 N.role) := by
         rw [hb3.cell (p := ⟨w.heap.size, 4, none⟩) (show w.heap.size < _ by (try simp) <;> (try omega))]
         first | assumption | (simp [go_sem, *])
       have q3_0_5 : w3.cell? ⟨w.heap.size, 5, none⟩ = some (.bool N.up) := by
         rw [hb3.cell (p := ⟨w.heap.size, 5, none⟩) (show w.heap.size < _ by (try simp) <;> (try omega))]
         first | assumption | (simp [go_sem, *])
       have q3_0_6 : w3.cell? ⟨w.heap.size, 6, none⟩ = some (.slice al N.log.length cl) := by
         rw [hb3.cell (p := ⟨w.heap.size, 6, none⟩) (show w.heap.size < _ by (try simp) <;> (try omega))]
         first | assumption | (simp [go_sem, *])
       have q3_0_7 : w3.cell? ⟨w.heap.size, 7, none⟩ = some (.int .i64 N.commit) := by
         rw [hb3.cell (p := ⟨w.heap.size, 7, none⟩) (show w.heap.size < _ by (try simp) <;> (try omega))]
         first | assumption | (simp [go_sem, *])
       have q3_0_8 : w3.cell? ⟨w.heap.size, 8, none⟩ = some (.int .i64 N.elapsed) := by
         rw [hb3.cell (p := ⟨w.heap.size, 8, none⟩) (show w.heap.size < _ by (try simp) <;> (try omega))]
         first | assumption | (simp [go_sem, *])
       have q3_0_9 : w3.cell? ⟨w.heap.size, 9, none⟩ = some (.int .i64 N.wait) := by
         rw [hb3.cell (p := ⟨w.heap.size, 9, none⟩) (show w.heap.size < _ by (try simp) <;> (try omega))]
         first | assumption | (simp [go_sem, *])
       have q3_0_10 : w3.cell? ⟨w.heap.size, 10, none⟩ = some (.slice av N.votes.length cv) := by
         rw [hb3.cell (p := ⟨w.heap.size, 10, none⟩) (show w.heap.size < _ by (try simp) <;> (try omega))]
         first | assumption | (simp [go_sem, *])
       have q3_0_11 : w3.cell? ⟨w.heap.size, 11, none⟩ = some (.slice an N.next.length cn) := by
         rw [hb3.cell (p := ⟨w.heap.size, 11, none⟩) (show w.heap.size < _ by (try simp) <;> (try omega))]
         first | assumption | (simp [go_sem, *])
       have q3_0_12 : w3.cell? ⟨w.heap.size, 12, none⟩ = some (.slice am N.mtch.length cm) := by
         rw [hb3.cell (p := ⟨w.heap.size, 12, none⟩) (show w.heap.size < _ by (try simp) <;> (try omega))]
         first | assumption | (simp [go_sem, *])
       have hl3_0 : w.heap.size < w3.heap.size := by omega
       have q3_1_0 : w3.cell? ⟨w.heap.size + 1, 0, none⟩ = some (.int .i64 N.id) := by
         rw [hb3.cell (p := ⟨w.heap.size + 1, 0, none⟩) (show w.heap.size + 1 < _ by (try simp) <;> (try omega))]
         first | assumption | (simp [go_sem, *])
       have q3_1_1 : w3.cell? ⟨w.heap.size + 1, 1, none⟩ = some (.int .i64 N.nodes) := by
         rw [hb3.cell (p := ⟨w.heap.size + 1, 1, none⟩) (show w.heap.size + 1 < _ by (try simp) <;> (try omega))]
         first | assumption | (simp [go_sem, *])
       have q3_1_2 : w3.cell? ⟨w.heap.size + 1, 2, none⟩ = some (.int .i64 N.term) := by
         rw [hb3.cell (p := ⟨w.heap.size + 1, 2, none⟩) (show w.heap.size + 1 < _ by (try simp) <;> (try omega))]
         first | assumption | (simp [go_sem, *])
       have q3_1_3 : w3.cell? ⟨w.heap.size + 1, 3, none⟩ = some (.int .i64 N.vote) := by
         rw [hb3.cell (p := ⟨w.heap.size + 1, 3, none⟩) (show w.heap.size + 1 < _ by (try simp) <;> (try omega))]
         first | assumption | (simp [go_sem, *])
       have q3_1_4 : w3.cell? ⟨w.heap.size + 1, 4, none⟩ = some (.int .i64 N.role) := by
         rw [hb3.cell (p := ⟨w.heap.size + 1, 4, none⟩) (show w.heap.size + 1 < _ by (try simp) <;> (try omega))]
         first | assumption | (simp [go_sem, *])
       have q3_1_5 : w3.cell? ⟨w.heap.size + 1, 5, none⟩ = some (.bool N.up) := by
         rw [hb3.cell (p := ⟨w.heap.size + 1, 5, none⟩) (show w.heap.size + 1 < _ by (try simp) <;> (try omega))]
         first | assumption | (simp [go_sem, *])
       have q3_1_6 : w3.cell? ⟨w.heap.size + 1, 6, none⟩ = some (.slice al1 N.log.length cl1) := by
         rw [hb3.cell (p := ⟨w.heap.size + 1, 6, none⟩) (show w.heap.size + 1 < _ by (try simp) <;> (try omega))]
         first | assumption | (simp [go_sem, *])
       have q3_1_7 : w3.cell? ⟨w.heap.size + 1, 7, none⟩ = some (.int .i64 N.commit) := by
         rw [hb3.cell (p := ⟨w.heap.size + 1, 7, none⟩) (show w.heap.size + 1 < _ by (try simp) <;> (try omega))]
         first | assumption | (simp [go_sem, *])
       have q3_1_8 : w3.cell? ⟨w.heap.size + 1, 8, none⟩ = some (.int .i64 N.elapsed) := by
         rw [hb3.cell (p := ⟨w.heap.size + 1, 8, none⟩) (show w.heap.size + 1 < _ by (try simp) <;> (try omega))]
         first | assumption | (simp [go_sem, *])
       have q3_1_9 : w3.cell? ⟨w.heap.size + 1, 9, none⟩ = some (.int .i64 N.wait) := by
         rw [hb3.cell (p := ⟨w.heap.size + 1, 9, none⟩) (show w.heap.size + 1 < _ by (try simp) <;> (try omega))]
         first | assumption | (simp [go_sem, *])
       have q3_1_10 : w3.cell? ⟨w.heap.size + 1, 10, none⟩ = some (.slice av1 N.votes.length cv1) := by
         rw [hb3.cell (p := ⟨w.heap.size + 1, 10, none⟩) (show w.heap.size + 1 < _ by (try simp) <;> (try omega))]
         first | assumption | (simp [go_sem, *])
       have q3_1_11 : w3.cell? ⟨w.heap.size + 1, 11, none⟩ = some (.slice an1 N.next.length cn1) := by
         rw [hb3.cell (p := ⟨w.heap.size + 1, 11, none⟩) (show w.heap.size + 1 < _ by (try simp) <;> (try omega))]
         first | assumption | (simp [go_sem, *])
       have q3_1_12 : w3.cell? ⟨w.heap.size + 1, 12, none⟩ = some (.slice am1 N.mtch.length cm1) := by
         rw [hb3.cell (p := ⟨w.heap.size + 1, 12, none⟩) (show w.heap.size + 1 < _ by (try simp) <;> (try omega))]
         first | assumption | (simp [go_sem, *])
       have hl3_1 : w.heap.size + 1 < w3.heap.size := by omega
       have HB3 : Hid (Below w.heap.size w w3) := HB2.out.trans (hb3.mono (by omega)))
    | (go_at_call 29
       refine (eqIntS_c av av1 cv cv1 N.votes N.votes _ HN1.out.votes HM1.out.votes HZ.out.votes HZ.out.votes).mono ?_
       rintro e w2 ⟨rfl, hb2⟩
       simp only [decide_true]
       have HN2 := Lib.hid (HN1.out.keep hb2)
       have HM2 := Lib.hid (HM1.out.keep hb2)
       have hz2 := hb2.size
       try simp at hz2
       have q2_0_0 : w2.cell? ⟨w.heap.size, 0, none⟩ = some (.int .i64 N.id) := by
         rw [hb2.cell (p := ⟨w.heap.size, 0, none⟩) (show w.heap.size < _ by (try simp) <;> (try omega))]
         first | assumption | (simp [go_sem, *])
       have q2_0_1 : w2.cell? ⟨w.heap.size, 1, none⟩ = some (.int .i64 N.nodes) := by
         rw [hb2.cell (p := ⟨w.heap.size, 1, none⟩) (show w.heap.size < _ by (try simp) <;> (try omega))]
         first | assumption | (simp [go_sem, *])
       have q2_0_2 : w2.cell? ⟨w.heap.size, 2, none⟩ = some (.int .i64 N.term) := by
         rw [hb2.cell (p := ⟨w.heap.size, 2, none⟩) (show w.heap.size < _ by (try simp) <;> (try omega))]
         first | assumption | (simp [go_sem, *])
       have q2_0_3 : w2.cell? ⟨w.heap.size, 3, none⟩ = some (.int .i64 N.vote) := by
         rw [hb2.cell (p := ⟨w.heap.size, 3, none⟩) (show w.heap.size < _ by (try simp) <;> (try omega))]
         first | assumption | (simp [go_sem, *])
       have q2_0_4 : w2.cell? ⟨w.heap.size, 4, none⟩ = some (.int .i64 N.role) := by
         rw [hb2.cell (p := ⟨w.heap.size, 4, none⟩) (show w.heap.size < _ by (try simp) <;> (try omega))]
         first | assumption | (simp [go_sem, *])
       have q2_0_5 : w2.cell? ⟨w.heap.size, 5, none⟩ = some (.bool N.up) := by
         rw [hb2.cell (p := ⟨w.heap.size, 5, none⟩) (show w.heap.size < _ by (try simp) <;> (try omega))]
         first | assumption | (simp [go_sem, *])
       have q2_0_6 : w2.cell? ⟨w.heap.size, 6, none⟩ = some (.slice al N.log.length cl) := by
         rw [hb2.cell (p := ⟨w.heap.size, 6, none⟩) (show w.heap.size < _ by (try simp) <;> (try omega))]
         first | assumption | (simp [go_sem, *])
       have q2_0_7 : w2.cell? ⟨w.heap.size, 7, none⟩ = some (.int .i64 N.commit) := by
         rw [hb2.cell (p := ⟨w.heap.size, 7, none⟩) (show w.heap.size < _ by (try simp) <;> (try omega))]
         first | assumption | (simp [go_sem, *])
       have q2_0_8 : w2.cell? ⟨w.heap.size, 8, none⟩ = some (.int .i64 N.elapsed) := by
         rw [hb2.cell (p := ⟨w.heap.size, 8, none⟩) (show w.heap.size < _ by (try simp) <;> (try omega))]
         first | assumption | (simp [go_sem, *])
       have q2_0_9 : w2.cell? ⟨w.heap.size, 9, none⟩ = some (.int .i64 N.wait) := by
         rw [hb2.cell (p := ⟨w.heap.size, 9, none⟩) (show w.heap.size < _ by (try simp) <;> (try omega))]
         first | assumption | (simp [go_sem, *])
       have q2_0_10 : w2.cell? ⟨w.heap.size, 10, none⟩ = some (.slice av N.votes.length cv) := by
         rw [hb2.cell (p := ⟨w.heap.size, 10, none⟩) (show w.heap.size < _ by (try simp) <;> (try omega))]
         first | assumption | (simp [go_sem, *])
       have q2_0_11 : w2.cell? ⟨w.heap.size, 11, none⟩ = some (.slice an N.next.length cn) := by
         rw [hb2.cell (p := ⟨w.heap.size, 11, none⟩) (show w.heap.size < _ by (try simp) <;> (try omega))]
         first | assumption | (simp [go_sem, *])
       have q2_0_12 : w2.cell? ⟨w.heap.size, 12, none⟩ = some (.slice am N.mtch.length cm) := by
         rw [hb2.cell (p := ⟨w.heap.size, 12, none⟩) (show w.heap.size < _ by (try simp) <;> (try omega))]
         first | assumption | (simp [go_sem, *])
       have hl2_0 : w.heap.size < w2.heap.size := by omega
       have q2_1_0 : w2.cell? ⟨w.heap.size + 1, 0, none⟩ = some (.int .i64 N.id) := by
         rw [hb2.cell (p := ⟨w.heap.size + 1, 0, none⟩) (show w.heap.size + 1 < _ by (try simp) <;> (try omega))]
         first | assumption | (simp [go_sem, *])
       have q2_1_1 : w2.cell? ⟨w.heap.size + 1, 1, none⟩ = some (.int .i64 N.nodes) := by
         rw [hb2.cell (p := ⟨w.heap.size + 1, 1, none⟩) (show w.heap.size + 1 < _ by (try simp) <;> (try omega))]
         first | assumption | (simp [go_sem, *])
       have q2_1_2 : w2.cell? ⟨w.heap.size + 1, 2, none⟩ = some (.int .i64 N.term) := by
         rw [hb2.cell (p := ⟨w.heap.size + 1, 2, none⟩) (show w.heap.size + 1 < _ by (try simp) <;> (try omega))]
         first | assumption | (simp [go_sem, *])
       have q2_1_3 : w2.cell? ⟨w.heap.size + 1, 3, none⟩ = some (.int .i64 N.vote) := by
         rw [hb2.cell (p := ⟨w.heap.size + 1, 3, none⟩) (show w.heap.size + 1 < _ by (try simp) <;> (try omega))]
         first | assumption | (simp [go_sem, *])
       have q2_1_4 : w2.cell? ⟨w.heap.size + 1, 4, none⟩ = some (.int .i64 N.role) := by
         rw [hb2.cell (p := ⟨w.heap.size + 1, 4, none⟩) (show w.heap.size + 1 < _ by (try simp) <;> (try omega))]
         first | assumption | (simp [go_sem, *])
       have q2_1_5 : w2.cell? ⟨w.heap.size + 1, 5, none⟩ = some (.bool N.up) := by
         rw [hb2.cell (p := ⟨w.heap.size + 1, 5, none⟩) (show w.heap.size + 1 < _ by (try simp) <;> (try omega))]
         first | assumption | (simp [go_sem, *])
       have q2_1_6 : w2.cell? ⟨w.heap.size + 1, 6, none⟩ = some (.slice al1 N.log.length cl1) := by
         rw [hb2.cell (p := ⟨w.heap.size + 1, 6, none⟩) (show w.heap.size + 1 < _ by (try simp) <;> (try omega))]
         first | assumption | (simp [go_sem, *])
       have q2_1_7 : w2.cell? ⟨w.heap.size + 1, 7, none⟩ = some (.int .i64 N.commit) := by
         rw [hb2.cell (p := ⟨w.heap.size + 1, 7, none⟩) (show w.heap.size + 1 < _ by (try simp) <;> (try omega))]
         first | assumption | (simp [go_sem, *])
       have q2_1_8 : w2.cell? ⟨w.heap.size + 1, 8, none⟩ = some (.int .i64 N.elapsed) := by
         rw [hb2.cell (p := ⟨w.heap.size + 1, 8, none⟩) (show w.heap.size + 1 < _ by (try simp) <;> (try omega))]
         first | assumption | (simp [go_sem, *])
       have q2_1_9 : w2.cell? ⟨w.heap.size + 1, 9, none⟩ = some (.int .i64 N.wait) := by
         rw [hb2.cell (p := ⟨w.heap.size + 1, 9, none⟩) (show w.heap.size + 1 < _ by (try simp) <;> (try omega))]
         first | assumption | (simp [go_sem, *])
       have q2_1_10 : w2.cell? ⟨w.heap.size + 1, 10, none⟩ = some (.slice av1 N.votes.length cv1) := by
         rw [hb2.cell (p := ⟨w.heap.size + 1, 10, none⟩) (show w.heap.size + 1 < _ by (try simp) <;> (try omega))]
         first | assumption | (simp [go_sem, *])
       have q2_1_11 : w2.cell? ⟨w.heap.size + 1, 11, none⟩ = some (.slice an1 N.next.length cn1) := by
         rw [hb2.cell (p := ⟨w.heap.size + 1, 11, none⟩) (show w.heap.size + 1 < _ by (try simp) <;> (try omega))]
         first | assumption | (simp [go_sem, *])
       have q2_1_12 : w2.cell? ⟨w.heap.size + 1, 12, none⟩ = some (.slice am1 N.mtch.length cm1) := by
         rw [hb2.cell (p := ⟨w.heap.size + 1, 12, none⟩) (show w.heap.size + 1 < _ by (try simp) <;> (try omega))]
         first | assumption | (simp [go_sem, *])
       have hl2_1 : w.heap.size + 1 < w2.heap.size := by omega
       clear q1_0_0 q1_0_1 q1_0_2 q1_0_3 q1_0_4 q1_0_5 q1_0_6 q1_0_7 q1_0_8 q1_0_9 q1_0_10 q1_0_11 q1_0_12 q1_1_0 q1_1_1 q1_1_2 q1_1_3 q1_1_4 q1_1_5 q1_1_6 q1_1_7 q1_1_8 q1_1_9 q1_1_10 q1_1_11 q1_1_12
       have HB2 : Hid (Below w.heap.size w w2) := HB1.out.trans (hb2.mono (by omega))))
  go_ret
  exact ⟨rfl, HB3.out.trans (hb4.mono (by omega))⟩
end Go.Proofs.Ytcakldgbhjkkfaa
