/- The law FnExactCommitted: its walk. -/
import Derived.Test.YtmkgmecpjppgcaaComm
import Derived.Test.YtmkgmecpjppgcaaCut3
import Derived.Test.YtmkgmecpjppgcaaMarkNode
import Derived.Deep.RegionHeld3
namespace Go.Proofs.Ytmkgmecpjppgcaa
set_option linter.unusedVariables false
set_option linter.unusedSimpArgs false
open Go.RowKit
set_option maxRecDepth 100000 in
set_option maxHeartbeats 16000000 in
theorem lawComm_c (al : Option Addr) (cl : Nat) (av : Option Addr) (cv : Nat) (an : Option Addr) (cn : Nat) (am : Option Addr) (cm : Nat) (N : NodeV) (w : World) (hN : NodeSl w al av an am N) (hZ : NodeSz N 9223372036854775807) :
    Calls Try.prog 14 #[.agg #[.int .i64 N.id, .int .i64 N.nodes, .int .i64 N.term, .int .i64 N.vote, .int .i64 N.role, .bool N.up, .slice al N.log.length cl, .int .i64 N.commit, .int .i64 N.elapsed, .int .i64 N.wait, .slice av N.votes.length cv, .slice an N.next.length cn, .slice am N.mtch.length cm]] w fun e w' => e = .returned (.bool true) ∧ Below w.heap.size w w' := by
  have HZ0 := Lib.hid hZ
  clear hZ
  go_enter Try.func14, Try.ntmps14
  go_wp2_with fail
  refine (szNode_c al cl av cv an cn am cm N _ _ (hN.alloc _) HZ0.out (by omega) (by omega)).mono ?_
  rintro e w1 ⟨⟨n, rfl, hn, himp⟩, hb1⟩
  have hz1 := hb1.size
  simp only [World.size_alloc] at hz1
  have HI := Lib.hid himp
  clear himp
  have q1_0_0 : w1.cell? ⟨w.heap.size, 0, none⟩ = some (.int .i64 N.id) := by
    rw [hb1.cell (p := ⟨w.heap.size, 0, none⟩) (show w.heap.size < _ by (try simp) <;> (try omega))]
    first | assumption | (simp [go_sem, *])
  have q1_0_1 : w1.cell? ⟨w.heap.size, 1, none⟩ = some (.int .i64 N.nodes) := by
    rw [hb1.cell (p := ⟨w.heap.size, 1, none⟩) (show w.heap.size < _ by (try simp) <;> (try omega))]
    first | assumption | (simp [go_sem, *])
  have q1_0_2 : w1.cell? ⟨w.heap.size, 2, none⟩ = some (.int .i64 N.term) := by
    rw [hb1.cell (p := ⟨w.heap.size, 2, none⟩) (show w.heap.size < _ by (try simp) <;> (try omega))]
    first | assumption | (simp [go_sem, *])
  have q1_0_3 : w1.cell? ⟨w.heap.size, 3, none⟩ = some (.int .i64 N.vote) := by
    rw [hb1.cell (p := ⟨w.heap.size, 3, none⟩) (show w.heap.size < _ by (try simp) <;> (try omega))]
    first | assumption | (simp [go_sem, *])
  have q1_0_4 : w1.cell? ⟨w.heap.size, 4, none⟩ = some (.int .i64 N.role) := by
    rw [hb1.cell (p := ⟨w.heap.size, 4, none⟩) (show w.heap.size < _ by (try simp) <;> (try omega))]
    first | assumption | (simp [go_sem, *])
  have q1_0_5 : w1.cell? ⟨w.heap.size, 5, none⟩ = some (.bool N.up) := by
    rw [hb1.cell (p := ⟨w.heap.size, 5, none⟩) (show w.heap.size < _ by (try simp) <;> (try omega))]
    first | assumption | (simp [go_sem, *])
  have q1_0_6 : w1.cell? ⟨w.heap.size, 6, none⟩ = some (.slice al N.log.length cl) := by
    rw [hb1.cell (p := ⟨w.heap.size, 6, none⟩) (show w.heap.size < _ by (try simp) <;> (try omega))]
    first | assumption | (simp [go_sem, *])
  have q1_0_7 : w1.cell? ⟨w.heap.size, 7, none⟩ = some (.int .i64 N.commit) := by
    rw [hb1.cell (p := ⟨w.heap.size, 7, none⟩) (show w.heap.size < _ by (try simp) <;> (try omega))]
    first | assumption | (simp [go_sem, *])
  have q1_0_8 : w1.cell? ⟨w.heap.size, 8, none⟩ = some (.int .i64 N.elapsed) := by
    rw [hb1.cell (p := ⟨w.heap.size, 8, none⟩) (show w.heap.size < _ by (try simp) <;> (try omega))]
    first | assumption | (simp [go_sem, *])
  have q1_0_9 : w1.cell? ⟨w.heap.size, 9, none⟩ = some (.int .i64 N.wait) := by
    rw [hb1.cell (p := ⟨w.heap.size, 9, none⟩) (show w.heap.size < _ by (try simp) <;> (try omega))]
    first | assumption | (simp [go_sem, *])
  have q1_0_10 : w1.cell? ⟨w.heap.size, 10, none⟩ = some (.slice av N.votes.length cv) := by
    rw [hb1.cell (p := ⟨w.heap.size, 10, none⟩) (show w.heap.size < _ by (try simp) <;> (try omega))]
    first | assumption | (simp [go_sem, *])
  have q1_0_11 : w1.cell? ⟨w.heap.size, 11, none⟩ = some (.slice an N.next.length cn) := by
    rw [hb1.cell (p := ⟨w.heap.size, 11, none⟩) (show w.heap.size < _ by (try simp) <;> (try omega))]
    first | assumption | (simp [go_sem, *])
  have q1_0_12 : w1.cell? ⟨w.heap.size, 12, none⟩ = some (.slice am N.mtch.length cm) := by
    rw [hb1.cell (p := ⟨w.heap.size, 12, none⟩) (show w.heap.size < _ by (try simp) <;> (try omega))]
    first | assumption | (simp [go_sem, *])
  have hl1_0 : w.heap.size < w1.heap.size := by omega
  have HB1 : Hid (Below w.heap.size w w1) := ((Below.refl w.heap.size w).alloc (by (try simp) <;> (try omega)) _).trans (hb1.mono (by (try simp) <;> (try omega)))
  clear hb1
  by_cases hneg : n < 0
  · go_wp2_with fail
    go_ret
    exact ⟨rfl, HB1.out⟩
  have HZ := Lib.hid (HI.out (by omega))
  have hcl := commL_length N HZ.out.log
  have hmk : markNum N 1 ≤ 1099511627776 := by have h1 := HZ.out.log; have h2 := HZ.out.votes; have h3 := HZ.out.next; have h4 := HZ.out.mtch; unfold markNum; omega
  generalize hgL : commL N = R at *
  generalize hgC : commC N = C at *
  have hrw : Hid (commL N = R ∧ commC N = C) := ⟨hgL, hgC⟩
  have HMK := Lib.hid hmk
  clear HI hgL hgC hmk
  go_wp2_with fail
  refine (toNode_c al cl av cv an cn am cm N _ (hN.keep HB1.out) HZ.out).mono ?_
  rintro e w2 ⟨al2, cl2, av2, cv2, an2, cn2, am2, cm2, rfl, hf2, hb2⟩
  have hz2 := hb2.size
  have HX22 := Lib.hid hf2.here
  clear hf2
  have q2_0_0 : w2.cell? ⟨w.heap.size, 0, none⟩ = some (.int .i64 N.id) := by
    rw [hb2.cell (p := ⟨w.heap.size, 0, none⟩) (show w.heap.size < _ by (try simp) <;> (try omega))]
    exact q1_0_0
  have q2_0_1 : w2.cell? ⟨w.heap.size, 1, none⟩ = some (.int .i64 N.nodes) := by
    rw [hb2.cell (p := ⟨w.heap.size, 1, none⟩) (show w.heap.size < _ by (try simp) <;> (try omega))]
    exact q1_0_1
  have q2_0_2 : w2.cell? ⟨w.heap.size, 2, none⟩ = some (.int .i64 N.term) := by
    rw [hb2.cell (p := ⟨w.heap.size, 2, none⟩) (show w.heap.size < _ by (try simp) <;> (try omega))]
    exact q1_0_2
  have q2_0_3 : w2.cell? ⟨w.heap.size, 3, none⟩ = some (.int .i64 N.vote) := by
    rw [hb2.cell (p := ⟨w.heap.size, 3, none⟩) (show w.heap.size < _ by (try simp) <;> (try omega))]
    exact q1_0_3
  have q2_0_4 : w2.cell? ⟨w.heap.size, 4, none⟩ = some (.int .i64 N.role) := by
    rw [hb2.cell (p := ⟨w.heap.size, 4, none⟩) (show w.heap.size < _ by (try simp) <;> (try omega))]
    exact q1_0_4
  have q2_0_5 : w2.cell? ⟨w.heap.size, 5, none⟩ = some (.bool N.up) := by
    rw [hb2.cell (p := ⟨w.heap.size, 5, none⟩) (show w.heap.size < _ by (try simp) <;> (try omega))]
    exact q1_0_5
  have q2_0_6 : w2.cell? ⟨w.heap.size, 6, none⟩ = some (.slice al N.log.length cl) := by
    rw [hb2.cell (p := ⟨w.heap.size, 6, none⟩) (show w.heap.size < _ by (try simp) <;> (try omega))]
    exact q1_0_6
  have q2_0_7 : w2.cell? ⟨w.heap.size, 7, none⟩ = some (.int .i64 N.commit) := by
    rw [hb2.cell (p := ⟨w.heap.size, 7, none⟩) (show w.heap.size < _ by (try simp) <;> (try omega))]
    exact q1_0_7
  have q2_0_8 : w2.cell? ⟨w.heap.size, 8, none⟩ = some (.int .i64 N.elapsed) := by
    rw [hb2.cell (p := ⟨w.heap.size, 8, none⟩) (show w.heap.size < _ by (try simp) <;> (try omega))]
    exact q1_0_8
  have q2_0_9 : w2.cell? ⟨w.heap.size, 9, none⟩ = some (.int .i64 N.wait) := by
    rw [hb2.cell (p := ⟨w.heap.size, 9, none⟩) (show w.heap.size < _ by (try simp) <;> (try omega))]
    exact q1_0_9
  have q2_0_10 : w2.cell? ⟨w.heap.size, 10, none⟩ = some (.slice av N.votes.length cv) := by
    rw [hb2.cell (p := ⟨w.heap.size, 10, none⟩) (show w.heap.size < _ by (try simp) <;> (try omega))]
    exact q1_0_10
  have q2_0_11 : w2.cell? ⟨w.heap.size, 11, none⟩ = some (.slice an N.next.length cn) := by
    rw [hb2.cell (p := ⟨w.heap.size, 11, none⟩) (show w.heap.size < _ by (try simp) <;> (try omega))]
    exact q1_0_11
  have q2_0_12 : w2.cell? ⟨w.heap.size, 12, none⟩ = some (.slice am N.mtch.length cm) := by
    rw [hb2.cell (p := ⟨w.heap.size, 12, none⟩) (show w.heap.size < _ by (try simp) <;> (try omega))]
    exact q1_0_12
  have hl2_0 : w.heap.size < w2.heap.size := by omega
  clear q1_0_0 q1_0_1 q1_0_2 q1_0_3 q1_0_4 q1_0_5 q1_0_6 q1_0_7 q1_0_8 q1_0_9 q1_0_10 q1_0_11 q1_0_12
  have HB2 : Hid (Below w.heap.size w w2) := HB1.out.trans (hb2.mono (by (try simp) <;> (try omega)))
  clear hb2
  go_wp2_with fail
  refine (specComm_c al2 cl2 av2 cv2 an2 cn2 am2 cm2 N _ HX22.out.sl HZ.out).mono ?_
  rw [hrw.out.1, hrw.out.2]
  rintro e w3 ⟨a3, c3, rfl, hf3, hb3⟩
  have hz3 := hb3.size
  have HG33 := Lib.hid (show FreshIn strE 9 1 (w2.heap.size) w3.heap.size (.slice a3 R.length c3) R w3 from (by simpa using hf3.here))
  clear hf3
  have HX23 := Lib.hid (HX22.out.below hb3)
  clear HX22
  have q3_0_0 : w3.cell? ⟨w.heap.size, 0, none⟩ = some (.int .i64 N.id) := by
    rw [hb3.cell (p := ⟨w.heap.size, 0, none⟩) (show w.heap.size < _ by (try simp) <;> (try omega))]
    exact q2_0_0
  have q3_0_1 : w3.cell? ⟨w.heap.size, 1, none⟩ = some (.int .i64 N.nodes) := by
    rw [hb3.cell (p := ⟨w.heap.size, 1, none⟩) (show w.heap.size < _ by (try simp) <;> (try omega))]
    exact q2_0_1
  have q3_0_2 : w3.cell? ⟨w.heap.size, 2, none⟩ = some (.int .i64 N.term) := by
    rw [hb3.cell (p := ⟨w.heap.size, 2, none⟩) (show w.heap.size < _ by (try simp) <;> (try omega))]
    exact q2_0_2
  have q3_0_3 : w3.cell? ⟨w.heap.size, 3, none⟩ = some (.int .i64 N.vote) := by
    rw [hb3.cell (p := ⟨w.heap.size, 3, none⟩) (show w.heap.size < _ by (try simp) <;> (try omega))]
    exact q2_0_3
  have q3_0_4 : w3.cell? ⟨w.heap.size, 4, none⟩ = some (.int .i64 N.role) := by
    rw [hb3.cell (p := ⟨w.heap.size, 4, none⟩) (show w.heap.size < _ by (try simp) <;> (try omega))]
    exact q2_0_4
  have q3_0_5 : w3.cell? ⟨w.heap.size, 5, none⟩ = some (.bool N.up) := by
    rw [hb3.cell (p := ⟨w.heap.size, 5, none⟩) (show w.heap.size < _ by (try simp) <;> (try omega))]
    exact q2_0_5
  have q3_0_6 : w3.cell? ⟨w.heap.size, 6, none⟩ = some (.slice al N.log.length cl) := by
    rw [hb3.cell (p := ⟨w.heap.size, 6, none⟩) (show w.heap.size < _ by (try simp) <;> (try omega))]
    exact q2_0_6
  have q3_0_7 : w3.cell? ⟨w.heap.size, 7, none⟩ = some (.int .i64 N.commit) := by
    rw [hb3.cell (p := ⟨w.heap.size, 7, none⟩) (show w.heap.size < _ by (try simp) <;> (try omega))]
    exact q2_0_7
  have q3_0_8 : w3.cell? ⟨w.heap.size, 8, none⟩ = some (.int .i64 N.elapsed) := by
    rw [hb3.cell (p := ⟨w.heap.size, 8, none⟩) (show w.heap.size < _ by (try simp) <;> (try omega))]
    exact q2_0_8
  have q3_0_9 : w3.cell? ⟨w.heap.size, 9, none⟩ = some (.int .i64 N.wait) := by
    rw [hb3.cell (p := ⟨w.heap.size, 9, none⟩) (show w.heap.size < _ by (try simp) <;> (try omega))]
    exact q2_0_9
  have q3_0_10 : w3.cell? ⟨w.heap.size, 10, none⟩ = some (.slice av N.votes.length cv) := by
    rw [hb3.cell (p := ⟨w.heap.size, 10, none⟩) (show w.heap.size < _ by (try simp) <;> (try omega))]
    exact q2_0_10
  have q3_0_11 : w3.cell? ⟨w.heap.size, 11, none⟩ = some (.slice an N.next.length cn) := by
    rw [hb3.cell (p := ⟨w.heap.size, 11, none⟩) (show w.heap.size < _ by (try simp) <;> (try omega))]
    exact q2_0_11
  have q3_0_12 : w3.cell? ⟨w.heap.size, 12, none⟩ = some (.slice am N.mtch.length cm) := by
    rw [hb3.cell (p := ⟨w.heap.size, 12, none⟩) (show w.heap.size < _ by (try simp) <;> (try omega))]
    exact q2_0_12
  have hl3_0 : w.heap.size < w3.heap.size := by omega
  clear q2_0_0 q2_0_1 q2_0_2 q2_0_3 q2_0_4 q2_0_5 q2_0_6 q2_0_7 q2_0_8 q2_0_9 q2_0_10 q2_0_11 q2_0_12
  have HB3 : Hid (Below w.heap.size w w3) := HB2.out.trans (hb3.mono (by (try simp) <;> (try omega)))
  clear hb3
  clear HX23
  go_wp2_with fail
  refine (toNode_c al cl av cv an cn am cm N _ (hN.keep HB3.out) HZ.out).mono ?_
  rintro e w4 ⟨al4, cl4, av4, cv4, an4, cn4, am4, cm4, rfl, hf4, hb4⟩
  have hz4 := hb4.size
  have HX44 := Lib.hid hf4.here
  clear hf4
  have HG34 := Lib.hid (HG33.out.below hb4)
  clear HG33
  have q4_0_0 : w4.cell? ⟨w.heap.size, 0, none⟩ = some (.int .i64 N.id) := by
    rw [hb4.cell (p := ⟨w.heap.size, 0, none⟩) (show w.heap.size < _ by (try simp) <;> (try omega))]
    exact q3_0_0
  have q4_0_1 : w4.cell? ⟨w.heap.size, 1, none⟩ = some (.int .i64 N.nodes) := by
    rw [hb4.cell (p := ⟨w.heap.size, 1, none⟩) (show w.heap.size < _ by (try simp) <;> (try omega))]
    exact q3_0_1
  have q4_0_2 : w4.cell? ⟨w.heap.size, 2, none⟩ = some (.int .i64 N.term) := by
    rw [hb4.cell (p := ⟨w.heap.size, 2, none⟩) (show w.heap.size < _ by (try simp) <;> (try omega))]
    exact q3_0_2
  have q4_0_3 : w4.cell? ⟨w.heap.size, 3, none⟩ = some (.int .i64 N.vote) := by
    rw [hb4.cell (p := ⟨w.heap.size, 3, none⟩) (show w.heap.size < _ by (try simp) <;> (try omega))]
    exact q3_0_3
  have q4_0_4 : w4.cell? ⟨w.heap.size, 4, none⟩ = some (.int .i64 N.role) := by
    rw [hb4.cell (p := ⟨w.heap.size, 4, none⟩) (show w.heap.size < _ by (try simp) <;> (try omega))]
    exact q3_0_4
  have q4_0_5 : w4.cell? ⟨w.heap.size, 5, none⟩ = some (.bool N.up) := by
    rw [hb4.cell (p := ⟨w.heap.size, 5, none⟩) (show w.heap.size < _ by (try simp) <;> (try omega))]
    exact q3_0_5
  have q4_0_6 : w4.cell? ⟨w.heap.size, 6, none⟩ = some (.slice al N.log.length cl) := by
    rw [hb4.cell (p := ⟨w.heap.size, 6, none⟩) (show w.heap.size < _ by (try simp) <;> (try omega))]
    exact q3_0_6
  have q4_0_7 : w4.cell? ⟨w.heap.size, 7, none⟩ = some (.int .i64 N.commit) := by
    rw [hb4.cell (p := ⟨w.heap.size, 7, none⟩) (show w.heap.size < _ by (try simp) <;> (try omega))]
    exact q3_0_7
  have q4_0_8 : w4.cell? ⟨w.heap.size, 8, none⟩ = some (.int .i64 N.elapsed) := by
    rw [hb4.cell (p := ⟨w.heap.size, 8, none⟩) (show w.heap.size < _ by (try simp) <;> (try omega))]
    exact q3_0_8
  have q4_0_9 : w4.cell? ⟨w.heap.size, 9, none⟩ = some (.int .i64 N.wait) := by
    rw [hb4.cell (p := ⟨w.heap.size, 9, none⟩) (show w.heap.size < _ by (try simp) <;> (try omega))]
    exact q3_0_9
  have q4_0_10 : w4.cell? ⟨w.heap.size, 10, none⟩ = some (.slice av N.votes.length cv) := by
    rw [hb4.cell (p := ⟨w.heap.size, 10, none⟩) (show w.heap.size < _ by (try simp) <;> (try omega))]
    exact q3_0_10
  have q4_0_11 : w4.cell? ⟨w.heap.size, 11, none⟩ = some (.slice an N.next.length cn) := by
    rw [hb4.cell (p := ⟨w.heap.size, 11, none⟩) (show w.heap.size < _ by (try simp) <;> (try omega))]
    exact q3_0_11
  have q4_0_12 : w4.cell? ⟨w.heap.size, 12, none⟩ = some (.slice am N.mtch.length cm) := by
    rw [hb4.cell (p := ⟨w.heap.size, 12, none⟩) (show w.heap.size < _ by (try simp) <;> (try omega))]
    exact q3_0_12
  have hl4_0 : w.heap.size < w4.heap.size := by omega
  clear q3_0_0 q3_0_1 q3_0_2 q3_0_3 q3_0_4 q3_0_5 q3_0_6 q3_0_7 q3_0_8 q3_0_9 q3_0_10 q3_0_11 q3_0_12
  have HB4 : Hid (Below w.heap.size w w4) := HB3.out.trans (hb4.mono (by (try simp) <;> (try omega)))
  clear hb4
  go_wp2_with fail
  refine (implComm_c al4 cl4 av4 cv4 an4 cn4 am4 cm4 N _ (HX44.out.alloc _).sl HZ.out HX44.out.cap).mono ?_
  rw [hrw.out.1, hrw.out.2]
  rintro e w5 ⟨a5, c5, rfl, hf5, hb5⟩
  have hz5 := hb5.size
  simp only [World.size_alloc] at hz5
  have HG55 := Lib.hid (show FreshIn strE 9 1 (w4.heap.size + 1) w5.heap.size (.slice a5 R.length c5) R w5 from (by simpa using hf5.here))
  clear hf5
  have HG35 := Lib.hid ((HG34.out.alloc _).below hb5)
  clear HG34
  have HX45 := Lib.hid ((HX44.out.alloc _).below hb5)
  clear HX44
  have q5_0_0 : w5.cell? ⟨w.heap.size, 0, none⟩ = some (.int .i64 N.id) := by
    rw [hb5.cell (p := ⟨w.heap.size, 0, none⟩) (show w.heap.size < _ by (try simp) <;> (try omega))]
    first | assumption | (simp [go_sem, *])
  have q5_0_1 : w5.cell? ⟨w.heap.size, 1, none⟩ = some (.int .i64 N.nodes) := by
    rw [hb5.cell (p := ⟨w.heap.size, 1, none⟩) (show w.heap.size < _ by (try simp) <;> (try omega))]
    first | assumption | (simp [go_sem, *])
  have q5_0_2 : w5.cell? ⟨w.heap.size, 2, none⟩ = some (.int .i64 N.term) := by
    rw [hb5.cell (p := ⟨w.heap.size, 2, none⟩) (show w.heap.size < _ by (try simp) <;> (try omega))]
    first | assumption | (simp [go_sem, *])
  have q5_0_3 : w5.cell? ⟨w.heap.size, 3, none⟩ = some (.int .i64 N.vote) := by
    rw [hb5.cell (p := ⟨w.heap.size, 3, none⟩) (show w.heap.size < _ by (try simp) <;> (try omega))]
    first | assumption | (simp [go_sem, *])
  have q5_0_4 : w5.cell? ⟨w.heap.size, 4, none⟩ = some (.int .i64 N.role) := by
    rw [hb5.cell (p := ⟨w.heap.size, 4, none⟩) (show w.heap.size < _ by (try simp) <;> (try omega))]
    first | assumption | (simp [go_sem, *])
  have q5_0_5 : w5.cell? ⟨w.heap.size, 5, none⟩ = some (.bool N.up) := by
    rw [hb5.cell (p := ⟨w.heap.size, 5, none⟩) (show w.heap.size < _ by (try simp) <;> (try omega))]
    first | assumption | (simp [go_sem, *])
  have q5_0_6 : w5.cell? ⟨w.heap.size, 6, none⟩ = some (.slice al N.log.length cl) := by
    rw [hb5.cell (p := ⟨w.heap.size, 6, none⟩) (show w.heap.size < _ by (try simp) <;> (try omega))]
    first | assumption | (simp [go_sem, *])
  have q5_0_7 : w5.cell? ⟨w.heap.size, 7, none⟩ = some (.int .i64 N.commit) := by
    rw [hb5.cell (p := ⟨w.heap.size, 7, none⟩) (show w.heap.size < _ by (try simp) <;> (try omega))]
    first | assumption | (simp [go_sem, *])
  have q5_0_8 : w5.cell? ⟨w.heap.size, 8, none⟩ = some (.int .i64 N.elapsed) := by
    rw [hb5.cell (p := ⟨w.heap.size, 8, none⟩) (show w.heap.size < _ by (try simp) <;> (try omega))]
    first | assumption | (simp [go_sem, *])
  have q5_0_9 : w5.cell? ⟨w.heap.size, 9, none⟩ = some (.int .i64 N.wait) := by
    rw [hb5.cell (p := ⟨w.heap.size, 9, none⟩) (show w.heap.size < _ by (try simp) <;> (try omega))]
    first | assumption | (simp [go_sem, *])
  have q5_0_10 : w5.cell? ⟨w.heap.size, 10, none⟩ = some (.slice av N.votes.length cv) := by
    rw [hb5.cell (p := ⟨w.heap.size, 10, none⟩) (show w.heap.size < _ by (try simp) <;> (try omega))]
    first | assumption | (simp [go_sem, *])
  have q5_0_11 : w5.cell? ⟨w.heap.size, 11, none⟩ = some (.slice an N.next.length cn) := by
    rw [hb5.cell (p := ⟨w.heap.size, 11, none⟩) (show w.heap.size < _ by (try simp) <;> (try omega))]
    first | assumption | (simp [go_sem, *])
  have q5_0_12 : w5.cell? ⟨w.heap.size, 12, none⟩ = some (.slice am N.mtch.length cm) := by
    rw [hb5.cell (p := ⟨w.heap.size, 12, none⟩) (show w.heap.size < _ by (try simp) <;> (try omega))]
    first | assumption | (simp [go_sem, *])
  have hl5_0 : w.heap.size < w5.heap.size := by omega
  clear q4_0_0 q4_0_1 q4_0_2 q4_0_3 q4_0_4 q4_0_5 q4_0_6 q4_0_7 q4_0_8 q4_0_9 q4_0_10 q4_0_11 q4_0_12
  have q5_1_0 : w5.cell? ⟨w4.heap.size, 0, none⟩ = some (.int .i64 N.id) := by
    rw [hb5.cell (p := ⟨w4.heap.size, 0, none⟩) (show w4.heap.size < _ by (try simp) <;> (try omega))]
    first | assumption | (simp [go_sem, *])
  have q5_1_1 : w5.cell? ⟨w4.heap.size, 1, none⟩ = some (.int .i64 N.nodes) := by
    rw [hb5.cell (p := ⟨w4.heap.size, 1, none⟩) (show w4.heap.size < _ by (try simp) <;> (try omega))]
    first | assumption | (simp [go_sem, *])
  have q5_1_2 : w5.cell? ⟨w4.heap.size, 2, none⟩ = some (.int .i64 N.term) := by
    rw [hb5.cell (p := ⟨w4.heap.size, 2, none⟩) (show w4.heap.size < _ by (try simp) <;> (try omega))]
    first | assumption | (simp [go_sem, *])
  have q5_1_3 : w5.cell? ⟨w4.heap.size, 3, none⟩ = some (.int .i64 N.vote) := by
    rw [hb5.cell (p := ⟨w4.heap.size, 3, none⟩) (show w4.heap.size < _ by (try simp) <;> (try omega))]
    first | assumption | (simp [go_sem, *])
  have q5_1_4 : w5.cell? ⟨w4.heap.size, 4, none⟩ = some (.int .i64 N.role) := by
    rw [hb5.cell (p := ⟨w4.heap.size, 4, none⟩) (show w4.heap.size < _ by (try simp) <;> (try omega))]
    first | assumption | (simp [go_sem, *])
  have q5_1_5 : w5.cell? ⟨w4.heap.size, 5, none⟩ = some (.bool N.up) := by
    rw [hb5.cell (p := ⟨w4.heap.size, 5, none⟩) (show w4.heap.size < _ by (try simp) <;> (try omega))]
    first | assumption | (simp [go_sem, *])
  have q5_1_6 : w5.cell? ⟨w4.heap.size, 6, none⟩ = some (.slice al4 N.log.length cl4) := by
    rw [hb5.cell (p := ⟨w4.heap.size, 6, none⟩) (show w4.heap.size < _ by (try simp) <;> (try omega))]
    first | assumption | (simp [go_sem, *])
  have q5_1_7 : w5.cell? ⟨w4.heap.size, 7, none⟩ = some (.int .i64 N.commit) := by
    rw [hb5.cell (p := ⟨w4.heap.size, 7, none⟩) (show w4.heap.size < _ by (try simp) <;> (try omega))]
    first | assumption | (simp [go_sem, *])
  have q5_1_8 : w5.cell? ⟨w4.heap.size, 8, none⟩ = some (.int .i64 N.elapsed) := by
    rw [hb5.cell (p := ⟨w4.heap.size, 8, none⟩) (show w4.heap.size < _ by (try simp) <;> (try omega))]
    first | assumption | (simp [go_sem, *])
  have q5_1_9 : w5.cell? ⟨w4.heap.size, 9, none⟩ = some (.int .i64 N.wait) := by
    rw [hb5.cell (p := ⟨w4.heap.size, 9, none⟩) (show w4.heap.size < _ by (try simp) <;> (try omega))]
    first | assumption | (simp [go_sem, *])
  have q5_1_10 : w5.cell? ⟨w4.heap.size, 10, none⟩ = some (.slice av4 N.votes.length cv4) := by
    rw [hb5.cell (p := ⟨w4.heap.size, 10, none⟩) (show w4.heap.size < _ by (try simp) <;> (try omega))]
    first | assumption | (simp [go_sem, *])
  have q5_1_11 : w5.cell? ⟨w4.heap.size, 11, none⟩ = some (.slice an4 N.next.length cn4) := by
    rw [hb5.cell (p := ⟨w4.heap.size, 11, none⟩) (show w4.heap.size < _ by (try simp) <;> (try omega))]
    first | assumption | (simp [go_sem, *])
  have q5_1_12 : w5.cell? ⟨w4.heap.size, 12, none⟩ = some (.slice am4 N.mtch.length cm4) := by
    rw [hb5.cell (p := ⟨w4.heap.size, 12, none⟩) (show w4.heap.size < _ by (try simp) <;> (try omega))]
    first | assumption | (simp [go_sem, *])
  have hl5_1 : w4.heap.size < w5.heap.size := by omega
  have HB5 : Hid (Below w.heap.size w w5) := (HB4.out.alloc (by (try simp) <;> (try omega)) _).trans (hb5.mono (by (try simp) <;> (try omega)))
  clear hb5
  go_wp2_with fail
  refine (eqStringS_c a5 a3 c5 c3 R R _ (HG55.out.sl fun _ => rfl) (HG35.out.sl fun _ => rfl) hcl hcl).mono ?_
  simp only [decide_true]
  rintro e w6 ⟨rfl, hb6⟩
  have hz6 := hb6.size
  have HG36 := Lib.hid (HG35.out.below hb6)
  clear HG35
  have HX46 := Lib.hid (HX45.out.below hb6)
  clear HX45
  have HG56 := Lib.hid (HG55.out.below hb6)
  clear HG55
  have q6_0_0 : w6.cell? ⟨w.heap.size, 0, none⟩ = some (.int .i64 N.id) := by
    rw [hb6.cell (p := ⟨w.heap.size, 0, none⟩) (show w.heap.size < _ by (try simp) <;> (try omega))]
    exact q5_0_0
  have q6_0_1 : w6.cell? ⟨w.heap.size, 1, none⟩ = some (.int .i64 N.nodes) := by
    rw [hb6.cell (p := ⟨w.heap.size, 1, none⟩) (show w.heap.size < _ by (try simp) <;> (try omega))]
    exact q5_0_1
  have q6_0_2 : w6.cell? ⟨w.heap.size, 2, none⟩ = some (.int .i64 N.term) := by
    rw [hb6.cell (p := ⟨w.heap.size, 2, none⟩) (show w.heap.size < _ by (try simp) <;> (try omega))]
    exact q5_0_2
  have q6_0_3 : w6.cell? ⟨w.heap.size, 3, none⟩ = some (.int .i64 N.vote) := by
    rw [hb6.cell (p := ⟨w.heap.size, 3, none⟩) (show w.heap.size < _ by (try simp) <;> (try omega))]
    exact q5_0_3
  have q6_0_4 : w6.cell? ⟨w.heap.size, 4, none⟩ = some (.int .i64 N.role) := by
    rw [hb6.cell (p := ⟨w.heap.size, 4, none⟩) (show w.heap.size < _ by (try simp) <;> (try omega))]
    exact q5_0_4
  have q6_0_5 : w6.cell? ⟨w.heap.size, 5, none⟩ = some (.bool N.up) := by
    rw [hb6.cell (p := ⟨w.heap.size, 5, none⟩) (show w.heap.size < _ by (try simp) <;> (try omega))]
    exact q5_0_5
  have q6_0_6 : w6.cell? ⟨w.heap.size, 6, none⟩ = some (.slice al N.log.length cl) := by
    rw [hb6.cell (p := ⟨w.heap.size, 6, none⟩) (show w.heap.size < _ by (try simp) <;> (try omega))]
    exact q5_0_6
  have q6_0_7 : w6.cell? ⟨w.heap.size, 7, none⟩ = some (.int .i64 N.commit) := by
    rw [hb6.cell (p := ⟨w.heap.size, 7, none⟩) (show w.heap.size < _ by (try simp) <;> (try omega))]
    exact q5_0_7
  have q6_0_8 : w6.cell? ⟨w.heap.size, 8, none⟩ = some (.int .i64 N.elapsed) := by
    rw [hb6.cell (p := ⟨w.heap.size, 8, none⟩) (show w.heap.size < _ by (try simp) <;> (try omega))]
    exact q5_0_8
  have q6_0_9 : w6.cell? ⟨w.heap.size, 9, none⟩ = some (.int .i64 N.wait) := by
    rw [hb6.cell (p := ⟨w.heap.size, 9, none⟩) (show w.heap.size < _ by (try simp) <;> (try omega))]
    exact q5_0_9
  have q6_0_10 : w6.cell? ⟨w.heap.size, 10, none⟩ = some (.slice av N.votes.length cv) := by
    rw [hb6.cell (p := ⟨w.heap.size, 10, none⟩) (show w.heap.size < _ by (try simp) <;> (try omega))]
    exact q5_0_10
  have q6_0_11 : w6.cell? ⟨w.heap.size, 11, none⟩ = some (.slice an N.next.length cn) := by
    rw [hb6.cell (p := ⟨w.heap.size, 11, none⟩) (show w.heap.size < _ by (try simp) <;> (try omega))]
    exact q5_0_11
  have q6_0_12 : w6.cell? ⟨w.heap.size, 12, none⟩ = some (.slice am N.mtch.length cm) := by
    rw [hb6.cell (p := ⟨w.heap.size, 12, none⟩) (show w.heap.size < _ by (try simp) <;> (try omega))]
    exact q5_0_12
  have hl6_0 : w.heap.size < w6.heap.size := by omega
  clear q5_0_0 q5_0_1 q5_0_2 q5_0_3 q5_0_4 q5_0_5 q5_0_6 q5_0_7 q5_0_8 q5_0_9 q5_0_10 q5_0_11 q5_0_12
  have q6_1_0 : w6.cell? ⟨w4.heap.size, 0, none⟩ = some (.int .i64 N.id) := by
    rw [hb6.cell (p := ⟨w4.heap.size, 0, none⟩) (show w4.heap.size < _ by (try simp) <;> (try omega))]
    exact q5_1_0
  have q6_1_1 : w6.cell? ⟨w4.heap.size, 1, none⟩ = some (.int .i64 N.nodes) := by
    rw [hb6.cell (p := ⟨w4.heap.size, 1, none⟩) (show w4.heap.size < _ by (try simp) <;> (try omega))]
    exact q5_1_1
  have q6_1_2 : w6.cell? ⟨w4.heap.size, 2, none⟩ = some (.int .i64 N.term) := by
    rw [hb6.cell (p := ⟨w4.heap.size, 2, none⟩) (show w4.heap.size < _ by (try simp) <;> (try omega))]
    exact q5_1_2
  have q6_1_3 : w6.cell? ⟨w4.heap.size, 3, none⟩ = some (.int .i64 N.vote) := by
    rw [hb6.cell (p := ⟨w4.heap.size, 3, none⟩) (show w4.heap.size < _ by (try simp) <;> (try omega))]
    exact q5_1_3
  have q6_1_4 : w6.cell? ⟨w4.heap.size, 4, none⟩ = some (.int .i64 N.role) := by
    rw [hb6.cell (p := ⟨w4.heap.size, 4, none⟩) (show w4.heap.size < _ by (try simp) <;> (try omega))]
    exact q5_1_4
  have q6_1_5 : w6.cell? ⟨w4.heap.size, 5, none⟩ = some (.bool N.up) := by
    rw [hb6.cell (p := ⟨w4.heap.size, 5, none⟩) (show w4.heap.size < _ by (try simp) <;> (try omega))]
    exact q5_1_5
  have q6_1_6 : w6.cell? ⟨w4.heap.size, 6, none⟩ = some (.slice al4 N.log.length cl4) := by
    rw [hb6.cell (p := ⟨w4.heap.size, 6, none⟩) (show w4.heap.size < _ by (try simp) <;> (try omega))]
    exact q5_1_6
  have q6_1_7 : w6.cell? ⟨w4.heap.size, 7, none⟩ = some (.int .i64 N.commit) := by
    rw [hb6.cell (p := ⟨w4.heap.size, 7, none⟩) (show w4.heap.size < _ by (try simp) <;> (try omega))]
    exact q5_1_7
  have q6_1_8 : w6.cell? ⟨w4.heap.size, 8, none⟩ = some (.int .i64 N.elapsed) := by
    rw [hb6.cell (p := ⟨w4.heap.size, 8, none⟩) (show w4.heap.size < _ by (try simp) <;> (try omega))]
    exact q5_1_8
  have q6_1_9 : w6.cell? ⟨w4.heap.size, 9, none⟩ = some (.int .i64 N.wait) := by
    rw [hb6.cell (p := ⟨w4.heap.size, 9, none⟩) (show w4.heap.size < _ by (try simp) <;> (try omega))]
    exact q5_1_9
  have q6_1_10 : w6.cell? ⟨w4.heap.size, 10, none⟩ = some (.slice av4 N.votes.length cv4) := by
    rw [hb6.cell (p := ⟨w4.heap.size, 10, none⟩) (show w4.heap.size < _ by (try simp) <;> (try omega))]
    exact q5_1_10
  have q6_1_11 : w6.cell? ⟨w4.heap.size, 11, none⟩ = some (.slice an4 N.next.length cn4) := by
    rw [hb6.cell (p := ⟨w4.heap.size, 11, none⟩) (show w4.heap.size < _ by (try simp) <;> (try omega))]
    exact q5_1_11
  have q6_1_12 : w6.cell? ⟨w4.heap.size, 12, none⟩ = some (.slice am4 N.mtch.length cm4) := by
    rw [hb6.cell (p := ⟨w4.heap.size, 12, none⟩) (show w4.heap.size < _ by (try simp) <;> (try omega))]
    exact q5_1_12
  have hl6_1 : w4.heap.size < w6.heap.size := by omega
  clear q5_1_0 q5_1_1 q5_1_2 q5_1_3 q5_1_4 q5_1_5 q5_1_6 q5_1_7 q5_1_8 q5_1_9 q5_1_10 q5_1_11 q5_1_12
  have HB6 : Hid (Below w.heap.size w w6) := HB5.out.trans (hb6.mono (by (try simp) <;> (try omega)))
  clear hb6
  go_wp2_with fail
  go_region_held3 (fun w' => w'.cell? ⟨w.heap.size, 0, none⟩ = some (.int .i64 N.id) ∧ w'.cell? ⟨w.heap.size, 1, none⟩ = some (.int .i64 N.nodes) ∧ w'.cell? ⟨w.heap.size, 2, none⟩ = some (.int .i64 N.term) ∧ w'.cell? ⟨w.heap.size, 3, none⟩ = some (.int .i64 N.vote) ∧ w'.cell? ⟨w.heap.size, 4, none⟩ = some (.int .i64 N.role) ∧ w'.cell? ⟨w.heap.size, 5, none⟩ = some (.bool N.up) ∧ w'.cell? ⟨w.heap.size, 6, none⟩ = some (.slice al N.log.length cl) ∧ w'.cell? ⟨w.heap.size, 7, none⟩ = some (.int .i64 N.commit) ∧ w'.cell? ⟨w.heap.size, 8, none⟩ = some (.int .i64 N.elapsed) ∧ w'.cell? ⟨w.heap.size, 9, none⟩ = some (.int .i64 N.wait) ∧ w'.cell? ⟨w.heap.size, 10, none⟩ = some (.slice av N.votes.length cv) ∧ w'.cell? ⟨w.heap.size, 11, none⟩ = some (.slice an N.next.length cn) ∧ w'.cell? ⟨w.heap.size, 12, none⟩ = some (.slice am N.mtch.length cm) ∧ w'.cell? ⟨w4.heap.size, 0, none⟩ = some (.int .i64 N.id) ∧ w'.cell? ⟨w4.heap.size, 1, none⟩ = some (.int .i64 N.nodes) ∧ w'.cell? ⟨w4.heap.size, 2, none⟩ = some (.int .i64 N.term) ∧ w'.cell? ⟨w4.heap.size, 3, none⟩ = some (.int .i64 N.vote) ∧ w'.cell? ⟨w4.heap.size, 4, none⟩ = some (.int .i64 N.role) ∧ w'.cell? ⟨w4.heap.size, 5, none⟩ = some (.bool N.up) ∧ w'.cell? ⟨w4.heap.size, 6, none⟩ = some (.slice al4 N.log.length cl4) ∧ w'.cell? ⟨w4.heap.size, 7, none⟩ = some (.int .i64 N.commit) ∧ w'.cell? ⟨w4.heap.size, 8, none⟩ = some (.int .i64 N.elapsed) ∧ w'.cell? ⟨w4.heap.size, 9, none⟩ = some (.int .i64 N.wait) ∧ w'.cell? ⟨w4.heap.size, 10, none⟩ = some (.slice av4 N.votes.length cv4) ∧ w'.cell? ⟨w4.heap.size, 11, none⟩ = some (.slice an4 N.next.length cn4) ∧ w'.cell? ⟨w4.heap.size, 12, none⟩ = some (.slice am4 N.mtch.length cm4))
    (first | go_keep | (repeat' apply And.intro) <;> assumption)
    (first
    | (go_at_call 47
       refine (toNode_c al cl av cv an cn am cm N _ (hN.keep (HB6.out.drew)) HZ.out).mono ?_
       rintro e w7 ⟨al7, cl7, av7, cv7, an7, cn7, am7, cm7, rfl, hf7, hb7⟩
       have hz7 := hb7.size
       try simp at hz7
       have q7_0_0 : w7.cell? ⟨w.heap.size, 0, none⟩ = some (.int .i64 N.id) := by
         rw [hb7.cell (p := ⟨w.heap.size, 0, none⟩) (show w.heap.size < _ by (try simp) <;> (try omega))]
         first | assumption | (simp [go_sem, *])
       have q7_0_1 : w7.cell? ⟨w.heap.size, 1, none⟩ = some (.int .i64 N.nodes) := by
         rw [hb7.cell (p := ⟨w.heap.size, 1, none⟩) (show w.heap.size < _ by (try simp) <;> (try omega))]
         first | assumption | (simp [go_sem, *])
       have q7_0_2 : w7.cell? ⟨w.heap.size, 2, none⟩ = some (.int .i64 N.term) := by
         rw [hb7.cell (p := ⟨w.heap.size, 2, none⟩) (show w.heap.size < _ by (try simp) <;> (try omega))]
         first | assumption | (simp [go_sem, *])
       have q7_0_3 : w7.cell? ⟨w.heap.size, 3, none⟩ = some (.int .i64 N.vote) := by
         rw [hb7.cell (p := ⟨w.heap.size, 3, none⟩) (show w.heap.size < _ by (try simp) <;> (try omega))]
         first | assumption | (simp [go_sem, *])
       have q7_0_4 : w7.cell? ⟨w.heap.size, 4, none⟩ = some (.int .i64 N.role) := by
         rw [hb7.cell (p := ⟨w.heap.size, 4, none⟩) (show w.heap.size < _ by (try simp) <;> (try omega))]
         first | assumption | (simp [go_sem, *])
       have q7_0_5 : w7.cell? ⟨w.heap.size, 5, none⟩ = some (.bool N.up) := by
         rw [hb7.cell (p := ⟨w.heap.size, 5, none⟩) (show w.heap.size < _ by (try simp) <;> (try omega))]
         first | assumption | (simp [go_sem, *])
       have q7_0_6 : w7.cell? ⟨w.heap.size, 6, none⟩ = some (.slice al N.log.length cl) := by
         rw [hb7.cell (p := ⟨w.heap.size, 6, none⟩) (show w.heap.size < _ by (try simp) <;> (try omega))]
         first | assumption | (simp [go_sem, *])
       have q7_0_7 : w7.cell? ⟨w.heap.size, 7, none⟩ = some (.int .i64 N.commit) := by
         rw [hb7.cell (p := ⟨w.heap.size, 7, none⟩) (show w.heap.size < _ by (try simp) <;> (try omega))]
         first | assumption | (simp [go_sem, *])
       have q7_0_8 : w7.cell? ⟨w.heap.size, 8, none⟩ = some (.int .i64 N.elapsed) := by
         rw [hb7.cell (p := ⟨w.heap.size, 8, none⟩) (show w.heap.size < _ by (try simp) <;> (try omega))]
         first | assumption | (simp [go_sem, *])
       have q7_0_9 : w7.cell? ⟨w.heap.size, 9, none⟩ = some (.int .i64 N.wait) := by
         rw [hb7.cell (p := ⟨w.heap.size, 9, none⟩) (show w.heap.size < _ by (try simp) <;> (try omega))]
         first | assumption | (simp [go_sem, *])
       have q7_0_10 : w7.cell? ⟨w.heap.size, 10, none⟩ = some (.slice av N.votes.length cv) := by
         rw [hb7.cell (p := ⟨w.heap.size, 10, none⟩) (show w.heap.size < _ by (try simp) <;> (try omega))]
         first | assumption | (simp [go_sem, *])
       have q7_0_11 : w7.cell? ⟨w.heap.size, 11, none⟩ = some (.slice an N.next.length cn) := by
         rw [hb7.cell (p := ⟨w.heap.size, 11, none⟩) (show w.heap.size < _ by (try simp) <;> (try omega))]
         first | assumption | (simp [go_sem, *])
       have q7_0_12 : w7.cell? ⟨w.heap.size, 12, none⟩ = some (.slice am N.mtch.length cm) := by
         rw [hb7.cell (p := ⟨w.heap.size, 12, none⟩) (show w.heap.size < _ by (try simp) <;> (try omega))]
         first | assumption | (simp [go_sem, *])
       have hl7_0 : w.heap.size < w7.heap.size := by omega
       have q7_1_0 : w7.cell? ⟨w4.heap.size, 0, none⟩ = some (.int .i64 N.id) := by
         rw [hb7.cell (p := ⟨w4.heap.size, 0, none⟩) (show w4.heap.size < _ by (try simp) <;> (try omega))]
         first | assumption | (simp [go_sem, *])
       have q7_1_1 : w7.cell? ⟨w4.heap.size, 1, none⟩ = some (.int .i64 N.nodes) := by
         rw [hb7.cell (p := ⟨w4.heap.size, 1, none⟩) (show w4.heap.size < _ by (try simp) <;> (try omega))]
         first | assumption | (simp [go_sem, *])
       have q7_1_2 : w7.cell? ⟨w4.heap.size, 2, none⟩ = some (.int .i64 N.term) := by
         rw [hb7.cell (p := ⟨w4.heap.size, 2, none⟩) (show w4.heap.size < _ by (try simp) <;> (try omega))]
         first | assumption | (simp [go_sem, *])
       have q7_1_3 : w7.cell? ⟨w4.heap.size, 3, none⟩ = some (.int .i64 N.vote) := by
         rw [hb7.cell (p := ⟨w4.heap.size, 3, none⟩) (show w4.heap.size < _ by (try simp) <;> (try omega))]
         first | assumption | (simp [go_sem, *])
       have q7_1_4 : w7.cell? ⟨w4.heap.size, 4, none⟩ = some (.int .i64 N.role) := by
         rw [hb7.cell (p := ⟨w4.heap.size, 4, none⟩) (show w4.heap.size < _ by (try simp) <;> (try omega))]
         first | assumption | (simp [go_sem, *])
       have q7_1_5 : w7.cell? ⟨w4.heap.size, 5, none⟩ = some (.bool N.up) := by
         rw [hb7.cell (p := ⟨w4.heap.size, 5, none⟩) (show w4.heap.size < _ by (try simp) <;> (try omega))]
         first | assumption | (simp [go_sem, *])
       have q7_1_6 : w7.cell? ⟨w4.heap.size, 6, none⟩ = some (.slice al4 N.log.length cl4) := by
         rw [hb7.cell (p := ⟨w4.heap.size, 6, none⟩) (show w4.heap.size < _ by (try simp) <;> (try omega))]
         first | assumption | (simp [go_sem, *])
       have q7_1_7 : w7.cell? ⟨w4.heap.size, 7, none⟩ = some (.int .i64 N.commit) := by
         rw [hb7.cell (p := ⟨w4.heap.size, 7, none⟩) (show w4.heap.size < _ by (try simp) <;> (try omega))]
         first | assumption | (simp [go_sem, *])
       have q7_1_8 : w7.cell? ⟨w4.heap.size, 8, none⟩ = some (.int .i64 N.elapsed) := by
         rw [hb7.cell (p := ⟨w4.heap.size, 8, none⟩) (show w4.heap.size < _ by (try simp) <;> (try omega))]
         first | assumption | (simp [go_sem, *])
       have q7_1_9 : w7.cell? ⟨w4.heap.size, 9, none⟩ = some (.int .i64 N.wait) := by
         rw [hb7.cell (p := ⟨w4.heap.size, 9, none⟩) (show w4.heap.size < _ by (try simp) <;> (try omega))]
         first | assumption | (simp [go_sem, *])
       have q7_1_10 : w7.cell? ⟨w4.heap.size, 10, none⟩ = some (.slice av4 N.votes.length cv4) := by
         rw [hb7.cell (p := ⟨w4.heap.size, 10, none⟩) (show w4.heap.size < _ by (try simp) <;> (try omega))]
         first | assumption | (simp [go_sem, *])
       have q7_1_11 : w7.cell? ⟨w4.heap.size, 11, none⟩ = some (.slice an4 N.next.length cn4) := by
         rw [hb7.cell (p := ⟨w4.heap.size, 11, none⟩) (show w4.heap.size < _ by (try simp) <;> (try omega))]
         first | assumption | (simp [go_sem, *])
       have q7_1_12 : w7.cell? ⟨w4.heap.size, 12, none⟩ = some (.slice am4 N.mtch.length cm4) := by
         rw [hb7.cell (p := ⟨w4.heap.size, 12, none⟩) (show w4.heap.size < _ by (try simp) <;> (try omega))]
         first | assumption | (simp [go_sem, *])
       have hl7_1 : w4.heap.size < w7.heap.size := by omega)
    | (go_at_call 49
       refine (eqNode_same al4 cl4 av4 cv4 an4 cn4 am4 cm4 al7 cl7 av7 cv7 an7 cn7 am7 cm7 N _ ((HX46.out.drew.below hb7).sl) hf7.sl HZ.out).mono ?_
       rintro e w8 ⟨rfl, hb8⟩
       have hz8 := hb8.size
       try simp at hz8
       have q8_0_0 : w8.cell? ⟨w.heap.size, 0, none⟩ = some (.int .i64 N.id) := by
         rw [hb8.cell (p := ⟨w.heap.size, 0, none⟩) (show w.heap.size < _ by (try simp) <;> (try omega))]
         first | assumption | (simp [go_sem, *])
       have q8_0_1 : w8.cell? ⟨w.heap.size, 1, none⟩ = some (.int .i64 N.nodes) := by
         rw [hb8.cell (p := ⟨w.heap.size, 1, none⟩) (show w.heap.size < _ by (try simp) <;> (try omega))]
         first | assumption | (simp [go_sem, *])
       have q8_0_2 : w8.cell? ⟨w.heap.size, 2, none⟩ = some (.int .i64 N.term) := by
         rw [hb8.cell (p := ⟨w.heap.size, 2, none⟩) (show w.heap.size < _ by (try simp) <;> (try omega))]
         first | assumption | (simp [go_sem, *])
       have q8_0_3 : w8.cell? ⟨w.heap.size, 3, none⟩ = some (.int .i64 N.vote) := by
         rw [hb8.cell (p := ⟨w.heap.size, 3, none⟩) (show w.heap.size < _ by (try simp) <;> (try omega))]
         first | assumption | (simp [go_sem, *])
       have q8_0_4 : w8.cell? ⟨w.heap.size, 4, none⟩ = some (.int .i64 N.role) := by
         rw [hb8.cell (p := ⟨w.heap.size, 4, none⟩) (show w.heap.size < _ by (try simp) <;> (try omega))]
         first | assumption | (simp [go_sem, *])
       have q8_0_5 : w8.cell? ⟨w.heap.size, 5, none⟩ = some (.bool N.up) := by
         rw [hb8.cell (p := ⟨w.heap.size, 5, none⟩) (show w.heap.size < _ by (try simp) <;> (try omega))]
         first | assumption | (simp [go_sem, *])
       have q8_0_6 : w8.cell? ⟨w.heap.size, 6, none⟩ = some (.slice al N.log.length cl) := by
         rw [hb8.cell (p := ⟨w.heap.size, 6, none⟩) (show w.heap.size < _ by (try simp) <;> (try omega))]
         first | assumption | (simp [go_sem, *])
       have q8_0_7 : w8.cell? ⟨w.heap.size, 7, none⟩ = some (.int .i64 N.commit) := by
         rw [hb8.cell (p := ⟨w.heap.size, 7, none⟩) (show w.heap.size < _ by (try simp) <;> (try omega))]
         first | assumption | (simp [go_sem, *])
       have q8_0_8 : w8.cell? ⟨w.heap.size, 8, none⟩ = some (.int .i64 N.elapsed) := by
         rw [hb8.cell (p := ⟨w.heap.size, 8, none⟩) (show w.heap.size < _ by (try simp) <;> (try omega))]
         first | assumption | (simp [go_sem, *])
       have q8_0_9 : w8.cell? ⟨w.heap.size, 9, none⟩ = some (.int .i64 N.wait) := by
         rw [hb8.cell (p := ⟨w.heap.size, 9, none⟩) (show w.heap.size < _ by (try simp) <;> (try omega))]
         first | assumption | (simp [go_sem, *])
       have q8_0_10 : w8.cell? ⟨w.heap.size, 10, none⟩ = some (.slice av N.votes.length cv) := by
         rw [hb8.cell (p := ⟨w.heap.size, 10, none⟩) (show w.heap.size < _ by (try simp) <;> (try omega))]
         first | assumption | (simp [go_sem, *])
       have q8_0_11 : w8.cell? ⟨w.heap.size, 11, none⟩ = some (.slice an N.next.length cn) := by
         rw [hb8.cell (p := ⟨w.heap.size, 11, none⟩) (show w.heap.size < _ by (try simp) <;> (try omega))]
         first | assumption | (simp [go_sem, *])
       have q8_0_12 : w8.cell? ⟨w.heap.size, 12, none⟩ = some (.slice am N.mtch.length cm) := by
         rw [hb8.cell (p := ⟨w.heap.size, 12, none⟩) (show w.heap.size < _ by (try simp) <;> (try omega))]
         first | assumption | (simp [go_sem, *])
       have hl8_0 : w.heap.size < w8.heap.size := by omega
       have q8_1_0 : w8.cell? ⟨w4.heap.size, 0, none⟩ = some (.int .i64 N.id) := by
         rw [hb8.cell (p := ⟨w4.heap.size, 0, none⟩) (show w4.heap.size < _ by (try simp) <;> (try omega))]
         first | assumption | (simp [go_sem, *])
       have q8_1_1 : w8.cell? ⟨w4.heap.size, 1, none⟩ = some (.int .i64 N.nodes) := by
         rw [hb8.cell (p := ⟨w4.heap.size, 1, none⟩) (show w4.heap.size < _ by (try simp) <;> (try omega))]
         first | assumption | (simp [go_sem, *])
       have q8_1_2 : w8.cell? ⟨w4.heap.size, 2, none⟩ = some (.int .i64 N.term) := by
         rw [hb8.cell (p := ⟨w4.heap.size, 2, none⟩) (show w4.heap.size < _ by (try simp) <;> (try omega))]
         first | assumption | (simp [go_sem, *])
       have q8_1_3 : w8.cell? ⟨w4.heap.size, 3, none⟩ = some (.int .i64 N.vote) := by
         rw [hb8.cell (p := ⟨w4.heap.size, 3, none⟩) (show w4.heap.size < _ by (try simp) <;> (try omega))]
         first | assumption | (simp [go_sem, *])
       have q8_1_4 : w8.cell? ⟨w4.heap.size, 4, none⟩ = some (.int .i64 N.role) := by
         rw [hb8.cell (p := ⟨w4.heap.size, 4, none⟩) (show w4.heap.size < _ by (try simp) <;> (try omega))]
         first | assumption | (simp [go_sem, *])
       have q8_1_5 : w8.cell? ⟨w4.heap.size, 5, none⟩ = some (.bool N.up) := by
         rw [hb8.cell (p := ⟨w4.heap.size, 5, none⟩) (show w4.heap.size < _ by (try simp) <;> (try omega))]
         first | assumption | (simp [go_sem, *])
       have q8_1_6 : w8.cell? ⟨w4.heap.size, 6, none⟩ = some (.slice al4 N.log.length cl4) := by
         rw [hb8.cell (p := ⟨w4.heap.size, 6, none⟩) (show w4.heap.size < _ by (try simp) <;> (try omega))]
         first | assumption | (simp [go_sem, *])
       have q8_1_7 : w8.cell? ⟨w4.heap.size, 7, none⟩ = some (.int .i64 N.commit) := by
         rw [hb8.cell (p := ⟨w4.heap.size, 7, none⟩) (show w4.heap.size < _ by (try simp) <;> (try omega))]
         first | assumption | (simp [go_sem, *])
       have q8_1_8 : w8.cell? ⟨w4.heap.size, 8, none⟩ = some (.int .i64 N.elapsed) := by
         rw [hb8.cell (p := ⟨w4.heap.size, 8, none⟩) (show w4.heap.size < _ by (try simp) <;> (try omega))]
         first | assumption | (simp [go_sem, *])
       have q8_1_9 : w8.cell? ⟨w4.heap.size, 9, none⟩ = some (.int .i64 N.wait) := by
         rw [hb8.cell (p := ⟨w4.heap.size, 9, none⟩) (show w4.heap.size < _ by (try simp) <;> (try omega))]
         first | assumption | (simp [go_sem, *])
       have q8_1_10 : w8.cell? ⟨w4.heap.size, 10, none⟩ = some (.slice av4 N.votes.length cv4) := by
         rw [hb8.cell (p := ⟨w4.heap.size, 10, none⟩) (show w4.heap.size < _ by (try simp) <;> (try omega))]
         first | assumption | (simp [go_sem, *])
       have q8_1_11 : w8.cell? ⟨w4.heap.size, 11, none⟩ = some (.slice an4 N.next.length cn4) := by
         rw [hb8.cell (p := ⟨w4.heap.size, 11, none⟩) (show w4.heap.size < _ by (try simp) <;> (try omega))]
         first | assumption | (simp [go_sem, *])
       have q8_1_12 : w8.cell? ⟨w4.heap.size, 12, none⟩ = some (.slice am4 N.mtch.length cm4) := by
         rw [hb8.cell (p := ⟨w4.heap.size, 12, none⟩) (show w4.heap.size < _ by (try simp) <;> (try omega))]
         first | assumption | (simp [go_sem, *])
       have hl8_1 : w4.heap.size < w8.heap.size := by omega))
  have hr8 : Below w6.heap.size w6 w8 := ((((Below.refl _ _).drew).trans (hb7.mono (by (try simp) <;> (try omega)))).trans (hb8.mono (by (try simp) <;> (try omega))))
  have hzr8 := hr8.size
  have HG38 := Lib.hid (HG36.out.below hr8)
  clear HG36
  have HX48 := Lib.hid (HX46.out.below hr8)
  clear HX46
  have HG58 := Lib.hid (HG56.out.below hr8)
  clear HG56
  have HB8 : Hid (Below w.heap.size w w8) := HB6.out.trans (hr8.mono (by omega))
  clear q6_0_0 q6_0_1 q6_0_2 q6_0_3 q6_0_4 q6_0_5 q6_0_6 q6_0_7 q6_0_8 q6_0_9 q6_0_10 q6_0_11 q6_0_12 q7_0_0 q7_0_1 q7_0_2 q7_0_3 q7_0_4 q7_0_5 q7_0_6 q7_0_7 q7_0_8 q7_0_9 q7_0_10 q7_0_11 q7_0_12 q6_1_0 q6_1_1 q6_1_2 q6_1_3 q6_1_4 q6_1_5 q6_1_6 q6_1_7 q6_1_8 q6_1_9 q6_1_10 q6_1_11 q6_1_12 q7_1_0 q7_1_1 q7_1_2 q7_1_3 q7_1_4 q7_1_5 q7_1_6 q7_1_7 q7_1_8 q7_1_9 q7_1_10 q7_1_11 q7_1_12 hb7 hb8 hr8
  go_wp2_with fail
  refine (markNode_c al4 cl4 av4 cv4 an4 cn4 am4 cm4 N 1 (w3.heap.size) (w4.heap.size) _ HX48.out (by omega) HMK.out).mono ?_
  rintro e w9 ⟨rfl, _, hb9⟩
  have hz9 := hb9.size
  have HG39 := Lib.hid (HG38.out.mid hb9 (by omega))
  clear HG38
  have HG59 := Lib.hid (HG58.out.mid hb9 (by omega))
  clear HG58
  have q9_0_0 : w9.cell? ⟨w.heap.size, 0, none⟩ = some (.int .i64 N.id) := by
    rw [hb9.cell (p := ⟨w.heap.size, 0, none⟩) (show w.heap.size < _ by (try simp) <;> (try omega)) (by show w.heap.size < _ ∨ _ ≤ w.heap.size; omega)]
    exact q8_0_0
  have q9_0_1 : w9.cell? ⟨w.heap.size, 1, none⟩ = some (.int .i64 N.nodes) := by
    rw [hb9.cell (p := ⟨w.heap.size, 1, none⟩) (show w.heap.size < _ by (try simp) <;> (try omega)) (by show w.heap.size < _ ∨ _ ≤ w.heap.size; omega)]
    exact q8_0_1
  have q9_0_2 : w9.cell? ⟨w.heap.size, 2, none⟩ = some (.int .i64 N.term) := by
    rw [hb9.cell (p := ⟨w.heap.size, 2, none⟩) (show w.heap.size < _ by (try simp) <;> (try omega)) (by show w.heap.size < _ ∨ _ ≤ w.heap.size; omega)]
    exact q8_0_2
  have q9_0_3 : w9.cell? ⟨w.heap.size, 3, none⟩ = some (.int .i64 N.vote) := by
    rw [hb9.cell (p := ⟨w.heap.size, 3, none⟩) (show w.heap.size < _ by (try simp) <;> (try omega)) (by show w.heap.size < _ ∨ _ ≤ w.heap.size; omega)]
    exact q8_0_3
  have q9_0_4 : w9.cell? ⟨w.heap.size, 4, none⟩ = some (.int .i64 N.role) := by
    rw [hb9.cell (p := ⟨w.heap.size, 4, none⟩) (show w.heap.size < _ by (try simp) <;> (try omega)) (by show w.heap.size < _ ∨ _ ≤ w.heap.size; omega)]
    exact q8_0_4
  have q9_0_5 : w9.cell? ⟨w.heap.size, 5, none⟩ = some (.bool N.up) := by
    rw [hb9.cell (p := ⟨w.heap.size, 5, none⟩) (show w.heap.size < _ by (try simp) <;> (try omega)) (by show w.heap.size < _ ∨ _ ≤ w.heap.size; omega)]
    exact q8_0_5
  have q9_0_6 : w9.cell? ⟨w.heap.size, 6, none⟩ = some (.slice al N.log.length cl) := by
    rw [hb9.cell (p := ⟨w.heap.size, 6, none⟩) (show w.heap.size < _ by (try simp) <;> (try omega)) (by show w.heap.size < _ ∨ _ ≤ w.heap.size; omega)]
    exact q8_0_6
  have q9_0_7 : w9.cell? ⟨w.heap.size, 7, none⟩ = some (.int .i64 N.commit) := by
    rw [hb9.cell (p := ⟨w.heap.size, 7, none⟩) (show w.heap.size < _ by (try simp) <;> (try omega)) (by show w.heap.size < _ ∨ _ ≤ w.heap.size; omega)]
    exact q8_0_7
  have q9_0_8 : w9.cell? ⟨w.heap.size, 8, none⟩ = some (.int .i64 N.elapsed) := by
    rw [hb9.cell (p := ⟨w.heap.size, 8, none⟩) (show w.heap.size < _ by (try simp) <;> (try omega)) (by show w.heap.size < _ ∨ _ ≤ w.heap.size; omega)]
    exact q8_0_8
  have q9_0_9 : w9.cell? ⟨w.heap.size, 9, none⟩ = some (.int .i64 N.wait) := by
    rw [hb9.cell (p := ⟨w.heap.size, 9, none⟩) (show w.heap.size < _ by (try simp) <;> (try omega)) (by show w.heap.size < _ ∨ _ ≤ w.heap.size; omega)]
    exact q8_0_9
  have q9_0_10 : w9.cell? ⟨w.heap.size, 10, none⟩ = some (.slice av N.votes.length cv) := by
    rw [hb9.cell (p := ⟨w.heap.size, 10, none⟩) (show w.heap.size < _ by (try simp) <;> (try omega)) (by show w.heap.size < _ ∨ _ ≤ w.heap.size; omega)]
    exact q8_0_10
  have q9_0_11 : w9.cell? ⟨w.heap.size, 11, none⟩ = some (.slice an N.next.length cn) := by
    rw [hb9.cell (p := ⟨w.heap.size, 11, none⟩) (show w.heap.size < _ by (try simp) <;> (try omega)) (by show w.heap.size < _ ∨ _ ≤ w.heap.size; omega)]
    exact q8_0_11
  have q9_0_12 : w9.cell? ⟨w.heap.size, 12, none⟩ = some (.slice am N.mtch.length cm) := by
    rw [hb9.cell (p := ⟨w.heap.size, 12, none⟩) (show w.heap.size < _ by (try simp) <;> (try omega)) (by show w.heap.size < _ ∨ _ ≤ w.heap.size; omega)]
    exact q8_0_12
  have hl9_0 : w.heap.size < w9.heap.size := by omega
  clear q8_0_0 q8_0_1 q8_0_2 q8_0_3 q8_0_4 q8_0_5 q8_0_6 q8_0_7 q8_0_8 q8_0_9 q8_0_10 q8_0_11 q8_0_12
  have q9_1_0 : w9.cell? ⟨w4.heap.size, 0, none⟩ = some (.int .i64 N.id) := by
    rw [hb9.cell (p := ⟨w4.heap.size, 0, none⟩) (show w4.heap.size < _ by (try simp) <;> (try omega)) (by show w4.heap.size < _ ∨ _ ≤ w4.heap.size; omega)]
    exact q8_1_0
  have q9_1_1 : w9.cell? ⟨w4.heap.size, 1, none⟩ = some (.int .i64 N.nodes) := by
    rw [hb9.cell (p := ⟨w4.heap.size, 1, none⟩) (show w4.heap.size < _ by (try simp) <;> (try omega)) (by show w4.heap.size < _ ∨ _ ≤ w4.heap.size; omega)]
    exact q8_1_1
  have q9_1_2 : w9.cell? ⟨w4.heap.size, 2, none⟩ = some (.int .i64 N.term) := by
    rw [hb9.cell (p := ⟨w4.heap.size, 2, none⟩) (show w4.heap.size < _ by (try simp) <;> (try omega)) (by show w4.heap.size < _ ∨ _ ≤ w4.heap.size; omega)]
    exact q8_1_2
  have q9_1_3 : w9.cell? ⟨w4.heap.size, 3, none⟩ = some (.int .i64 N.vote) := by
    rw [hb9.cell (p := ⟨w4.heap.size, 3, none⟩) (show w4.heap.size < _ by (try simp) <;> (try omega)) (by show w4.heap.size < _ ∨ _ ≤ w4.heap.size; omega)]
    exact q8_1_3
  have q9_1_4 : w9.cell? ⟨w4.heap.size, 4, none⟩ = some (.int .i64 N.role) := by
    rw [hb9.cell (p := ⟨w4.heap.size, 4, none⟩) (show w4.heap.size < _ by (try simp) <;> (try omega)) (by show w4.heap.size < _ ∨ _ ≤ w4.heap.size; omega)]
    exact q8_1_4
  have q9_1_5 : w9.cell? ⟨w4.heap.size, 5, none⟩ = some (.bool N.up) := by
    rw [hb9.cell (p := ⟨w4.heap.size, 5, none⟩) (show w4.heap.size < _ by (try simp) <;> (try omega)) (by show w4.heap.size < _ ∨ _ ≤ w4.heap.size; omega)]
    exact q8_1_5
  have q9_1_6 : w9.cell? ⟨w4.heap.size, 6, none⟩ = some (.slice al4 N.log.length cl4) := by
    rw [hb9.cell (p := ⟨w4.heap.size, 6, none⟩) (show w4.heap.size < _ by (try simp) <;> (try omega)) (by show w4.heap.size < _ ∨ _ ≤ w4.heap.size; omega)]
    exact q8_1_6
  have q9_1_7 : w9.cell? ⟨w4.heap.size, 7, none⟩ = some (.int .i64 N.commit) := by
    rw [hb9.cell (p := ⟨w4.heap.size, 7, none⟩) (show w4.heap.size < _ by (try simp) <;> (try omega)) (by show w4.heap.size < _ ∨ _ ≤ w4.heap.size; omega)]
    exact q8_1_7
  have q9_1_8 : w9.cell? ⟨w4.heap.size, 8, none⟩ = some (.int .i64 N.elapsed) := by
    rw [hb9.cell (p := ⟨w4.heap.size, 8, none⟩) (show w4.heap.size < _ by (try simp) <;> (try omega)) (by show w4.heap.size < _ ∨ _ ≤ w4.heap.size; omega)]
    exact q8_1_8
  have q9_1_9 : w9.cell? ⟨w4.heap.size, 9, none⟩ = some (.int .i64 N.wait) := by
    rw [hb9.cell (p := ⟨w4.heap.size, 9, none⟩) (show w4.heap.size < _ by (try simp) <;> (try omega)) (by show w4.heap.size < _ ∨ _ ≤ w4.heap.size; omega)]
    exact q8_1_9
  have q9_1_10 : w9.cell? ⟨w4.heap.size, 10, none⟩ = some (.slice av4 N.votes.length cv4) := by
    rw [hb9.cell (p := ⟨w4.heap.size, 10, none⟩) (show w4.heap.size < _ by (try simp) <;> (try omega)) (by show w4.heap.size < _ ∨ _ ≤ w4.heap.size; omega)]
    exact q8_1_10
  have q9_1_11 : w9.cell? ⟨w4.heap.size, 11, none⟩ = some (.slice an4 N.next.length cn4) := by
    rw [hb9.cell (p := ⟨w4.heap.size, 11, none⟩) (show w4.heap.size < _ by (try simp) <;> (try omega)) (by show w4.heap.size < _ ∨ _ ≤ w4.heap.size; omega)]
    exact q8_1_11
  have q9_1_12 : w9.cell? ⟨w4.heap.size, 12, none⟩ = some (.slice am4 N.mtch.length cm4) := by
    rw [hb9.cell (p := ⟨w4.heap.size, 12, none⟩) (show w4.heap.size < _ by (try simp) <;> (try omega)) (by show w4.heap.size < _ ∨ _ ≤ w4.heap.size; omega)]
    exact q8_1_12
  have hl9_1 : w4.heap.size < w9.heap.size := by omega
  clear q8_1_0 q8_1_1 q8_1_2 q8_1_3 q8_1_4 q8_1_5 q8_1_6 q8_1_7 q8_1_8 q8_1_9 q8_1_10 q8_1_11 q8_1_12
  have HB9 : Hid (Below w.heap.size w w9) := HB8.out.trans (hb9.below (by omega) (by (try simp) <;> (try omega)))
  clear hb9
  clear HX48
  go_wp2_with fail
  refine (eqStringS_c a5 a3 c5 c3 R R _ (HG59.out.sl fun _ => rfl) (HG39.out.sl fun _ => rfl) hcl hcl).mono ?_
  simp only [decide_true]
  rintro e w10 ⟨rfl, hb10⟩
  have hz10 := hb10.size
  have HG310 := Lib.hid (HG39.out.below hb10)
  clear HG39
  have HG510 := Lib.hid (HG59.out.below hb10)
  clear HG59
  have q10_0_0 : w10.cell? ⟨w.heap.size, 0, none⟩ = some (.int .i64 N.id) := by
    rw [hb10.cell (p := ⟨w.heap.size, 0, none⟩) (show w.heap.size < _ by (try simp) <;> (try omega))]
    exact q9_0_0
  have q10_0_1 : w10.cell? ⟨w.heap.size, 1, none⟩ = some (.int .i64 N.nodes) := by
    rw [hb10.cell (p := ⟨w.heap.size, 1, none⟩) (show w.heap.size < _ by (try simp) <;> (try omega))]
    exact q9_0_1
  have q10_0_2 : w10.cell? ⟨w.heap.size, 2, none⟩ = some (.int .i64 N.term) := by
    rw [hb10.cell (p := ⟨w.heap.size, 2, none⟩) (show w.heap.size < _ by (try simp) <;> (try omega))]
    exact q9_0_2
  have q10_0_3 : w10.cell? ⟨w.heap.size, 3, none⟩ = some (.int .i64 N.vote) := by
    rw [hb10.cell (p := ⟨w.heap.size, 3, none⟩) (show w.heap.size < _ by (try simp) <;> (try omega))]
    exact q9_0_3
  have q10_0_4 : w10.cell? ⟨w.heap.size, 4, none⟩ = some (.int .i64 N.role) := by
    rw [hb10.cell (p := ⟨w.heap.size, 4, none⟩) (show w.heap.size < _ by (try simp) <;> (try omega))]
    exact q9_0_4
  have q10_0_5 : w10.cell? ⟨w.heap.size, 5, none⟩ = some (.bool N.up) := by
    rw [hb10.cell (p := ⟨w.heap.size, 5, none⟩) (show w.heap.size < _ by (try simp) <;> (try omega))]
    exact q9_0_5
  have q10_0_6 : w10.cell? ⟨w.heap.size, 6, none⟩ = some (.slice al N.log.length cl) := by
    rw [hb10.cell (p := ⟨w.heap.size, 6, none⟩) (show w.heap.size < _ by (try simp) <;> (try omega))]
    exact q9_0_6
  have q10_0_7 : w10.cell? ⟨w.heap.size, 7, none⟩ = some (.int .i64 N.commit) := by
    rw [hb10.cell (p := ⟨w.heap.size, 7, none⟩) (show w.heap.size < _ by (try simp) <;> (try omega))]
    exact q9_0_7
  have q10_0_8 : w10.cell? ⟨w.heap.size, 8, none⟩ = some (.int .i64 N.elapsed) := by
    rw [hb10.cell (p := ⟨w.heap.size, 8, none⟩) (show w.heap.size < _ by (try simp) <;> (try omega))]
    exact q9_0_8
  have q10_0_9 : w10.cell? ⟨w.heap.size, 9, none⟩ = some (.int .i64 N.wait) := by
    rw [hb10.cell (p := ⟨w.heap.size, 9, none⟩) (show w.heap.size < _ by (try simp) <;> (try omega))]
    exact q9_0_9
  have q10_0_10 : w10.cell? ⟨w.heap.size, 10, none⟩ = some (.slice av N.votes.length cv) := by
    rw [hb10.cell (p := ⟨w.heap.size, 10, none⟩) (show w.heap.size < _ by (try simp) <;> (try omega))]
    exact q9_0_10
  have q10_0_11 : w10.cell? ⟨w.heap.size, 11, none⟩ = some (.slice an N.next.length cn) := by
    rw [hb10.cell (p := ⟨w.heap.size, 11, none⟩) (show w.heap.size < _ by (try simp) <;> (try omega))]
    exact q9_0_11
  have q10_0_12 : w10.cell? ⟨w.heap.size, 12, none⟩ = some (.slice am N.mtch.length cm) := by
    rw [hb10.cell (p := ⟨w.heap.size, 12, none⟩) (show w.heap.size < _ by (try simp) <;> (try omega))]
    exact q9_0_12
  have hl10_0 : w.heap.size < w10.heap.size := by omega
  clear q9_0_0 q9_0_1 q9_0_2 q9_0_3 q9_0_4 q9_0_5 q9_0_6 q9_0_7 q9_0_8 q9_0_9 q9_0_10 q9_0_11 q9_0_12
  have q10_1_0 : w10.cell? ⟨w4.heap.size, 0, none⟩ = some (.int .i64 N.id) := by
    rw [hb10.cell (p := ⟨w4.heap.size, 0, none⟩) (show w4.heap.size < _ by (try simp) <;> (try omega))]
    exact q9_1_0
  have q10_1_1 : w10.cell? ⟨w4.heap.size, 1, none⟩ = some (.int .i64 N.nodes) := by
    rw [hb10.cell (p := ⟨w4.heap.size, 1, none⟩) (show w4.heap.size < _ by (try simp) <;> (try omega))]
    exact q9_1_1
  have q10_1_2 : w10.cell? ⟨w4.heap.size, 2, none⟩ = some (.int .i64 N.term) := by
    rw [hb10.cell (p := ⟨w4.heap.size, 2, none⟩) (show w4.heap.size < _ by (try simp) <;> (try omega))]
    exact q9_1_2
  have q10_1_3 : w10.cell? ⟨w4.heap.size, 3, none⟩ = some (.int .i64 N.vote) := by
    rw [hb10.cell (p := ⟨w4.heap.size, 3, none⟩) (show w4.heap.size < _ by (try simp) <;> (try omega))]
    exact q9_1_3
  have q10_1_4 : w10.cell? ⟨w4.heap.size, 4, none⟩ = some (.int .i64 N.role) := by
    rw [hb10.cell (p := ⟨w4.heap.size, 4, none⟩) (show w4.heap.size < _ by (try simp) <;> (try omega))]
    exact q9_1_4
  have q10_1_5 : w10.cell? ⟨w4.heap.size, 5, none⟩ = some (.bool N.up) := by
    rw [hb10.cell (p := ⟨w4.heap.size, 5, none⟩) (show w4.heap.size < _ by (try simp) <;> (try omega))]
    exact q9_1_5
  have q10_1_6 : w10.cell? ⟨w4.heap.size, 6, none⟩ = some (.slice al4 N.log.length cl4) := by
    rw [hb10.cell (p := ⟨w4.heap.size, 6, none⟩) (show w4.heap.size < _ by (try simp) <;> (try omega))]
    exact q9_1_6
  have q10_1_7 : w10.cell? ⟨w4.heap.size, 7, none⟩ = some (.int .i64 N.commit) := by
    rw [hb10.cell (p := ⟨w4.heap.size, 7, none⟩) (show w4.heap.size < _ by (try simp) <;> (try omega))]
    exact q9_1_7
  have q10_1_8 : w10.cell? ⟨w4.heap.size, 8, none⟩ = some (.int .i64 N.elapsed) := by
    rw [hb10.cell (p := ⟨w4.heap.size, 8, none⟩) (show w4.heap.size < _ by (try simp) <;> (try omega))]
    exact q9_1_8
  have q10_1_9 : w10.cell? ⟨w4.heap.size, 9, none⟩ = some (.int .i64 N.wait) := by
    rw [hb10.cell (p := ⟨w4.heap.size, 9, none⟩) (show w4.heap.size < _ by (try simp) <;> (try omega))]
    exact q9_1_9
  have q10_1_10 : w10.cell? ⟨w4.heap.size, 10, none⟩ = some (.slice av4 N.votes.length cv4) := by
    rw [hb10.cell (p := ⟨w4.heap.size, 10, none⟩) (show w4.heap.size < _ by (try simp) <;> (try omega))]
    exact q9_1_10
  have q10_1_11 : w10.cell? ⟨w4.heap.size, 11, none⟩ = some (.slice an4 N.next.length cn4) := by
    rw [hb10.cell (p := ⟨w4.heap.size, 11, none⟩) (show w4.heap.size < _ by (try simp) <;> (try omega))]
    exact q9_1_11
  have q10_1_12 : w10.cell? ⟨w4.heap.size, 12, none⟩ = some (.slice am4 N.mtch.length cm4) := by
    rw [hb10.cell (p := ⟨w4.heap.size, 12, none⟩) (show w4.heap.size < _ by (try simp) <;> (try omega))]
    exact q9_1_12
  have hl10_1 : w4.heap.size < w10.heap.size := by omega
  clear q9_1_0 q9_1_1 q9_1_2 q9_1_3 q9_1_4 q9_1_5 q9_1_6 q9_1_7 q9_1_8 q9_1_9 q9_1_10 q9_1_11 q9_1_12
  have HB10 : Hid (Below w.heap.size w w10) := HB9.out.trans (hb10.mono (by (try simp) <;> (try omega)))
  clear hb10
  go_wp2_with fail
  refine (markStringS_c a5 c5 R 1 (w4.heap.size + 1) (w5.heap.size) _ HG510.out (by omega) (by omega)).mono ?_
  rintro e w11 ⟨rfl, hf11, hb11⟩
  have hz11 := hb11.size
  have HM11 := Lib.hid hf11
  clear hf11
  have HG311 := Lib.hid (HG310.out.mid hb11 (by omega))
  clear HG310
  have q11_0_0 : w11.cell? ⟨w.heap.size, 0, none⟩ = some (.int .i64 N.id) := by
    rw [hb11.cell (p := ⟨w.heap.size, 0, none⟩) (show w.heap.size < _ by (try simp) <;> (try omega)) (by show w.heap.size < _ ∨ _ ≤ w.heap.size; omega)]
    exact q10_0_0
  have q11_0_1 : w11.cell? ⟨w.heap.size, 1, none⟩ = some (.int .i64 N.nodes) := by
    rw [hb11.cell (p := ⟨w.heap.size, 1, none⟩) (show w.heap.size < _ by (try simp) <;> (try omega)) (by show w.heap.size < _ ∨ _ ≤ w.heap.size; omega)]
    exact q10_0_1
  have q11_0_2 : w11.cell? ⟨w.heap.size, 2, none⟩ = some (.int .i64 N.term) := by
    rw [hb11.cell (p := ⟨w.heap.size, 2, none⟩) (show w.heap.size < _ by (try simp) <;> (try omega)) (by show w.heap.size < _ ∨ _ ≤ w.heap.size; omega)]
    exact q10_0_2
  have q11_0_3 : w11.cell? ⟨w.heap.size, 3, none⟩ = some (.int .i64 N.vote) := by
    rw [hb11.cell (p := ⟨w.heap.size, 3, none⟩) (show w.heap.size < _ by (try simp) <;> (try omega)) (by show w.heap.size < _ ∨ _ ≤ w.heap.size; omega)]
    exact q10_0_3
  have q11_0_4 : w11.cell? ⟨w.heap.size, 4, none⟩ = some (.int .i64 N.role) := by
    rw [hb11.cell (p := ⟨w.heap.size, 4, none⟩) (show w.heap.size < _ by (try simp) <;> (try omega)) (by show w.heap.size < _ ∨ _ ≤ w.heap.size; omega)]
    exact q10_0_4
  have q11_0_5 : w11.cell? ⟨w.heap.size, 5, none⟩ = some (.bool N.up) := by
    rw [hb11.cell (p := ⟨w.heap.size, 5, none⟩) (show w.heap.size < _ by (try simp) <;> (try omega)) (by show w.heap.size < _ ∨ _ ≤ w.heap.size; omega)]
    exact q10_0_5
  have q11_0_6 : w11.cell? ⟨w.heap.size, 6, none⟩ = some (.slice al N.log.length cl) := by
    rw [hb11.cell (p := ⟨w.heap.size, 6, none⟩) (show w.heap.size < _ by (try simp) <;> (try omega)) (by show w.heap.size < _ ∨ _ ≤ w.heap.size; omega)]
    exact q10_0_6
  have q11_0_7 : w11.cell? ⟨w.heap.size, 7, none⟩ = some (.int .i64 N.commit) := by
    rw [hb11.cell (p := ⟨w.heap.size, 7, none⟩) (show w.heap.size < _ by (try simp) <;> (try omega)) (by show w.heap.size < _ ∨ _ ≤ w.heap.size; omega)]
    exact q10_0_7
  have q11_0_8 : w11.cell? ⟨w.heap.size, 8, none⟩ = some (.int .i64 N.elapsed) := by
    rw [hb11.cell (p := ⟨w.heap.size, 8, none⟩) (show w.heap.size < _ by (try simp) <;> (try omega)) (by show w.heap.size < _ ∨ _ ≤ w.heap.size; omega)]
    exact q10_0_8
  have q11_0_9 : w11.cell? ⟨w.heap.size, 9, none⟩ = some (.int .i64 N.wait) := by
    rw [hb11.cell (p := ⟨w.heap.size, 9, none⟩) (show w.heap.size < _ by (try simp) <;> (try omega)) (by show w.heap.size < _ ∨ _ ≤ w.heap.size; omega)]
    exact q10_0_9
  have q11_0_10 : w11.cell? ⟨w.heap.size, 10, none⟩ = some (.slice av N.votes.length cv) := by
    rw [hb11.cell (p := ⟨w.heap.size, 10, none⟩) (show w.heap.size < _ by (try simp) <;> (try omega)) (by show w.heap.size < _ ∨ _ ≤ w.heap.size; omega)]
    exact q10_0_10
  have q11_0_11 : w11.cell? ⟨w.heap.size, 11, none⟩ = some (.slice an N.next.length cn) := by
    rw [hb11.cell (p := ⟨w.heap.size, 11, none⟩) (show w.heap.size < _ by (try simp) <;> (try omega)) (by show w.heap.size < _ ∨ _ ≤ w.heap.size; omega)]
    exact q10_0_11
  have q11_0_12 : w11.cell? ⟨w.heap.size, 12, none⟩ = some (.slice am N.mtch.length cm) := by
    rw [hb11.cell (p := ⟨w.heap.size, 12, none⟩) (show w.heap.size < _ by (try simp) <;> (try omega)) (by show w.heap.size < _ ∨ _ ≤ w.heap.size; omega)]
    exact q10_0_12
  have hl11_0 : w.heap.size < w11.heap.size := by omega
  clear q10_0_0 q10_0_1 q10_0_2 q10_0_3 q10_0_4 q10_0_5 q10_0_6 q10_0_7 q10_0_8 q10_0_9 q10_0_10 q10_0_11 q10_0_12
  have q11_1_0 : w11.cell? ⟨w4.heap.size, 0, none⟩ = some (.int .i64 N.id) := by
    rw [hb11.cell (p := ⟨w4.heap.size, 0, none⟩) (show w4.heap.size < _ by (try simp) <;> (try omega)) (by show w4.heap.size < _ ∨ _ ≤ w4.heap.size; omega)]
    exact q10_1_0
  have q11_1_1 : w11.cell? ⟨w4.heap.size, 1, none⟩ = some (.int .i64 N.nodes) := by
    rw [hb11.cell (p := ⟨w4.heap.size, 1, none⟩) (show w4.heap.size < _ by (try simp) <;> (try omega)) (by show w4.heap.size < _ ∨ _ ≤ w4.heap.size; omega)]
    exact q10_1_1
  have q11_1_2 : w11.cell? ⟨w4.heap.size, 2, none⟩ = some (.int .i64 N.term) := by
    rw [hb11.cell (p := ⟨w4.heap.size, 2, none⟩) (show w4.heap.size < _ by (try simp) <;> (try omega)) (by show w4.heap.size < _ ∨ _ ≤ w4.heap.size; omega)]
    exact q10_1_2
  have q11_1_3 : w11.cell? ⟨w4.heap.size, 3, none⟩ = some (.int .i64 N.vote) := by
    rw [hb11.cell (p := ⟨w4.heap.size, 3, none⟩) (show w4.heap.size < _ by (try simp) <;> (try omega)) (by show w4.heap.size < _ ∨ _ ≤ w4.heap.size; omega)]
    exact q10_1_3
  have q11_1_4 : w11.cell? ⟨w4.heap.size, 4, none⟩ = some (.int .i64 N.role) := by
    rw [hb11.cell (p := ⟨w4.heap.size, 4, none⟩) (show w4.heap.size < _ by (try simp) <;> (try omega)) (by show w4.heap.size < _ ∨ _ ≤ w4.heap.size; omega)]
    exact q10_1_4
  have q11_1_5 : w11.cell? ⟨w4.heap.size, 5, none⟩ = some (.bool N.up) := by
    rw [hb11.cell (p := ⟨w4.heap.size, 5, none⟩) (show w4.heap.size < _ by (try simp) <;> (try omega)) (by show w4.heap.size < _ ∨ _ ≤ w4.heap.size; omega)]
    exact q10_1_5
  have q11_1_6 : w11.cell? ⟨w4.heap.size, 6, none⟩ = some (.slice al4 N.log.length cl4) := by
    rw [hb11.cell (p := ⟨w4.heap.size, 6, none⟩) (show w4.heap.size < _ by (try simp) <;> (try omega)) (by show w4.heap.size < _ ∨ _ ≤ w4.heap.size; omega)]
    exact q10_1_6
  have q11_1_7 : w11.cell? ⟨w4.heap.size, 7, none⟩ = some (.int .i64 N.commit) := by
    rw [hb11.cell (p := ⟨w4.heap.size, 7, none⟩) (show w4.heap.size < _ by (try simp) <;> (try omega)) (by show w4.heap.size < _ ∨ _ ≤ w4.heap.size; omega)]
    exact q10_1_7
  have q11_1_8 : w11.cell? ⟨w4.heap.size, 8, none⟩ = some (.int .i64 N.elapsed) := by
    rw [hb11.cell (p := ⟨w4.heap.size, 8, none⟩) (show w4.heap.size < _ by (try simp) <;> (try omega)) (by show w4.heap.size < _ ∨ _ ≤ w4.heap.size; omega)]
    exact q10_1_8
  have q11_1_9 : w11.cell? ⟨w4.heap.size, 9, none⟩ = some (.int .i64 N.wait) := by
    rw [hb11.cell (p := ⟨w4.heap.size, 9, none⟩) (show w4.heap.size < _ by (try simp) <;> (try omega)) (by show w4.heap.size < _ ∨ _ ≤ w4.heap.size; omega)]
    exact q10_1_9
  have q11_1_10 : w11.cell? ⟨w4.heap.size, 10, none⟩ = some (.slice av4 N.votes.length cv4) := by
    rw [hb11.cell (p := ⟨w4.heap.size, 10, none⟩) (show w4.heap.size < _ by (try simp) <;> (try omega)) (by show w4.heap.size < _ ∨ _ ≤ w4.heap.size; omega)]
    exact q10_1_10
  have q11_1_11 : w11.cell? ⟨w4.heap.size, 11, none⟩ = some (.slice an4 N.next.length cn4) := by
    rw [hb11.cell (p := ⟨w4.heap.size, 11, none⟩) (show w4.heap.size < _ by (try simp) <;> (try omega)) (by show w4.heap.size < _ ∨ _ ≤ w4.heap.size; omega)]
    exact q10_1_11
  have q11_1_12 : w11.cell? ⟨w4.heap.size, 12, none⟩ = some (.slice am4 N.mtch.length cm4) := by
    rw [hb11.cell (p := ⟨w4.heap.size, 12, none⟩) (show w4.heap.size < _ by (try simp) <;> (try omega)) (by show w4.heap.size < _ ∨ _ ≤ w4.heap.size; omega)]
    exact q10_1_12
  have hl11_1 : w4.heap.size < w11.heap.size := by omega
  clear q10_1_0 q10_1_1 q10_1_2 q10_1_3 q10_1_4 q10_1_5 q10_1_6 q10_1_7 q10_1_8 q10_1_9 q10_1_10 q10_1_11 q10_1_12
  have HB11 : Hid (Below w.heap.size w w11) := HB10.out.trans (hb11.below (by omega) (by (try simp) <;> (try omega)))
  clear hb11
  clear HG510
  go_wp2_with fail
  refine (heldStringS_c a5 c5 R.length 1 _ (HM11.out.slm) (by omega)).mono ?_
  rintro e w12 ⟨rfl, hb12⟩
  have hz12 := hb12.size
  have HG312 := Lib.hid (HG311.out.below hb12)
  clear HG311
  have HM12 := Lib.hid (HM11.out.below hb12)
  clear HM11
  have q12_0_0 : w12.cell? ⟨w.heap.size, 0, none⟩ = some (.int .i64 N.id) := by
    rw [hb12.cell (p := ⟨w.heap.size, 0, none⟩) (show w.heap.size < _ by (try simp) <;> (try omega))]
    exact q11_0_0
  have q12_0_1 : w12.cell? ⟨w.heap.size, 1, none⟩ = some (.int .i64 N.nodes) := by
    rw [hb12.cell (p := ⟨w.heap.size, 1, none⟩) (show w.heap.size < _ by (try simp) <;> (try omega))]
    exact q11_0_1
  have q12_0_2 : w12.cell? ⟨w.heap.size, 2, none⟩ = some (.int .i64 N.term) := by
    rw [hb12.cell (p := ⟨w.heap.size, 2, none⟩) (show w.heap.size < _ by (try simp) <;> (try omega))]
    exact q11_0_2
  have q12_0_3 : w12.cell? ⟨w.heap.size, 3, none⟩ = some (.int .i64 N.vote) := by
    rw [hb12.cell (p := ⟨w.heap.size, 3, none⟩) (show w.heap.size < _ by (try simp) <;> (try omega))]
    exact q11_0_3
  have q12_0_4 : w12.cell? ⟨w.heap.size, 4, none⟩ = some (.int .i64 N.role) := by
    rw [hb12.cell (p := ⟨w.heap.size, 4, none⟩) (show w.heap.size < _ by (try simp) <;> (try omega))]
    exact q11_0_4
  have q12_0_5 : w12.cell? ⟨w.heap.size, 5, none⟩ = some (.bool N.up) := by
    rw [hb12.cell (p := ⟨w.heap.size, 5, none⟩) (show w.heap.size < _ by (try simp) <;> (try omega))]
    exact q11_0_5
  have q12_0_6 : w12.cell? ⟨w.heap.size, 6, none⟩ = some (.slice al N.log.length cl) := by
    rw [hb12.cell (p := ⟨w.heap.size, 6, none⟩) (show w.heap.size < _ by (try simp) <;> (try omega))]
    exact q11_0_6
  have q12_0_7 : w12.cell? ⟨w.heap.size, 7, none⟩ = some (.int .i64 N.commit) := by
    rw [hb12.cell (p := ⟨w.heap.size, 7, none⟩) (show w.heap.size < _ by (try simp) <;> (try omega))]
    exact q11_0_7
  have q12_0_8 : w12.cell? ⟨w.heap.size, 8, none⟩ = some (.int .i64 N.elapsed) := by
    rw [hb12.cell (p := ⟨w.heap.size, 8, none⟩) (show w.heap.size < _ by (try simp) <;> (try omega))]
    exact q11_0_8
  have q12_0_9 : w12.cell? ⟨w.heap.size, 9, none⟩ = some (.int .i64 N.wait) := by
    rw [hb12.cell (p := ⟨w.heap.size, 9, none⟩) (show w.heap.size < _ by (try simp) <;> (try omega))]
    exact q11_0_9
  have q12_0_10 : w12.cell? ⟨w.heap.size, 10, none⟩ = some (.slice av N.votes.length cv) := by
    rw [hb12.cell (p := ⟨w.heap.size, 10, none⟩) (show w.heap.size < _ by (try simp) <;> (try omega))]
    exact q11_0_10
  have q12_0_11 : w12.cell? ⟨w.heap.size, 11, none⟩ = some (.slice an N.next.length cn) := by
    rw [hb12.cell (p := ⟨w.heap.size, 11, none⟩) (show w.heap.size < _ by (try simp) <;> (try omega))]
    exact q11_0_11
  have q12_0_12 : w12.cell? ⟨w.heap.size, 12, none⟩ = some (.slice am N.mtch.length cm) := by
    rw [hb12.cell (p := ⟨w.heap.size, 12, none⟩) (show w.heap.size < _ by (try simp) <;> (try omega))]
    exact q11_0_12
  have hl12_0 : w.heap.size < w12.heap.size := by omega
  clear q11_0_0 q11_0_1 q11_0_2 q11_0_3 q11_0_4 q11_0_5 q11_0_6 q11_0_7 q11_0_8 q11_0_9 q11_0_10 q11_0_11 q11_0_12
  have q12_1_0 : w12.cell? ⟨w4.heap.size, 0, none⟩ = some (.int .i64 N.id) := by
    rw [hb12.cell (p := ⟨w4.heap.size, 0, none⟩) (show w4.heap.size < _ by (try simp) <;> (try omega))]
    exact q11_1_0
  have q12_1_1 : w12.cell? ⟨w4.heap.size, 1, none⟩ = some (.int .i64 N.nodes) := by
    rw [hb12.cell (p := ⟨w4.heap.size, 1, none⟩) (show w4.heap.size < _ by (try simp) <;> (try omega))]
    exact q11_1_1
  have q12_1_2 : w12.cell? ⟨w4.heap.size, 2, none⟩ = some (.int .i64 N.term) := by
    rw [hb12.cell (p := ⟨w4.heap.size, 2, none⟩) (show w4.heap.size < _ by (try simp) <;> (try omega))]
    exact q11_1_2
  have q12_1_3 : w12.cell? ⟨w4.heap.size, 3, none⟩ = some (.int .i64 N.vote) := by
    rw [hb12.cell (p := ⟨w4.heap.size, 3, none⟩) (show w4.heap.size < _ by (try simp) <;> (try omega))]
    exact q11_1_3
  have q12_1_4 : w12.cell? ⟨w4.heap.size, 4, none⟩ = some (.int .i64 N.role) := by
    rw [hb12.cell (p := ⟨w4.heap.size, 4, none⟩) (show w4.heap.size < _ by (try simp) <;> (try omega))]
    exact q11_1_4
  have q12_1_5 : w12.cell? ⟨w4.heap.size, 5, none⟩ = some (.bool N.up) := by
    rw [hb12.cell (p := ⟨w4.heap.size, 5, none⟩) (show w4.heap.size < _ by (try simp) <;> (try omega))]
    exact q11_1_5
  have q12_1_6 : w12.cell? ⟨w4.heap.size, 6, none⟩ = some (.slice al4 N.log.length cl4) := by
    rw [hb12.cell (p := ⟨w4.heap.size, 6, none⟩) (show w4.heap.size < _ by (try simp) <;> (try omega))]
    exact q11_1_6
  have q12_1_7 : w12.cell? ⟨w4.heap.size, 7, none⟩ = some (.int .i64 N.commit) := by
    rw [hb12.cell (p := ⟨w4.heap.size, 7, none⟩) (show w4.heap.size < _ by (try simp) <;> (try omega))]
    exact q11_1_7
  have q12_1_8 : w12.cell? ⟨w4.heap.size, 8, none⟩ = some (.int .i64 N.elapsed) := by
    rw [hb12.cell (p := ⟨w4.heap.size, 8, none⟩) (show w4.heap.size < _ by (try simp) <;> (try omega))]
    exact q11_1_8
  have q12_1_9 : w12.cell? ⟨w4.heap.size, 9, none⟩ = some (.int .i64 N.wait) := by
    rw [hb12.cell (p := ⟨w4.heap.size, 9, none⟩) (show w4.heap.size < _ by (try simp) <;> (try omega))]
    exact q11_1_9
  have q12_1_10 : w12.cell? ⟨w4.heap.size, 10, none⟩ = some (.slice av4 N.votes.length cv4) := by
    rw [hb12.cell (p := ⟨w4.heap.size, 10, none⟩) (show w4.heap.size < _ by (try simp) <;> (try omega))]
    exact q11_1_10
  have q12_1_11 : w12.cell? ⟨w4.heap.size, 11, none⟩ = some (.slice an4 N.next.length cn4) := by
    rw [hb12.cell (p := ⟨w4.heap.size, 11, none⟩) (show w4.heap.size < _ by (try simp) <;> (try omega))]
    exact q11_1_11
  have q12_1_12 : w12.cell? ⟨w4.heap.size, 12, none⟩ = some (.slice am4 N.mtch.length cm4) := by
    rw [hb12.cell (p := ⟨w4.heap.size, 12, none⟩) (show w4.heap.size < _ by (try simp) <;> (try omega))]
    exact q11_1_12
  have hl12_1 : w4.heap.size < w12.heap.size := by omega
  clear q11_1_0 q11_1_1 q11_1_2 q11_1_3 q11_1_4 q11_1_5 q11_1_6 q11_1_7 q11_1_8 q11_1_9 q11_1_10 q11_1_11 q11_1_12
  have HB12 : Hid (Below w.heap.size w w12) := HB11.out.trans (hb12.mono (by (try simp) <;> (try omega)))
  clear hb12
  go_wp2_with fail
  refine (toNode_c al cl av cv an cn am cm N _ (hN.keep HB12.out) HZ.out).mono ?_
  rintro e w13 ⟨al13, cl13, av13, cv13, an13, cn13, am13, cm13, rfl, hf13, hb13⟩
  have hz13 := hb13.size
  have HX1313 := Lib.hid hf13.here
  clear hf13
  have HG313 := Lib.hid (HG312.out.below hb13)
  clear HG312
  have HM13 := Lib.hid (HM12.out.below hb13)
  clear HM12
  have q13_0_0 : w13.cell? ⟨w.heap.size, 0, none⟩ = some (.int .i64 N.id) := by
    rw [hb13.cell (p := ⟨w.heap.size, 0, none⟩) (show w.heap.size < _ by (try simp) <;> (try omega))]
    exact q12_0_0
  have q13_0_1 : w13.cell? ⟨w.heap.size, 1, none⟩ = some (.int .i64 N.nodes) := by
    rw [hb13.cell (p := ⟨w.heap.size, 1, none⟩) (show w.heap.size < _ by (try simp) <;> (try omega))]
    exact q12_0_1
  have q13_0_2 : w13.cell? ⟨w.heap.size, 2, none⟩ = some (.int .i64 N.term) := by
    rw [hb13.cell (p := ⟨w.heap.size, 2, none⟩) (show w.heap.size < _ by (try simp) <;> (try omega))]
    exact q12_0_2
  have q13_0_3 : w13.cell? ⟨w.heap.size, 3, none⟩ = some (.int .i64 N.vote) := by
    rw [hb13.cell (p := ⟨w.heap.size, 3, none⟩) (show w.heap.size < _ by (try simp) <;> (try omega))]
    exact q12_0_3
  have q13_0_4 : w13.cell? ⟨w.heap.size, 4, none⟩ = some (.int .i64 N.role) := by
    rw [hb13.cell (p := ⟨w.heap.size, 4, none⟩) (show w.heap.size < _ by (try simp) <;> (try omega))]
    exact q12_0_4
  have q13_0_5 : w13.cell? ⟨w.heap.size, 5, none⟩ = some (.bool N.up) := by
    rw [hb13.cell (p := ⟨w.heap.size, 5, none⟩) (show w.heap.size < _ by (try simp) <;> (try omega))]
    exact q12_0_5
  have q13_0_6 : w13.cell? ⟨w.heap.size, 6, none⟩ = some (.slice al N.log.length cl) := by
    rw [hb13.cell (p := ⟨w.heap.size, 6, none⟩) (show w.heap.size < _ by (try simp) <;> (try omega))]
    exact q12_0_6
  have q13_0_7 : w13.cell? ⟨w.heap.size, 7, none⟩ = some (.int .i64 N.commit) := by
    rw [hb13.cell (p := ⟨w.heap.size, 7, none⟩) (show w.heap.size < _ by (try simp) <;> (try omega))]
    exact q12_0_7
  have q13_0_8 : w13.cell? ⟨w.heap.size, 8, none⟩ = some (.int .i64 N.elapsed) := by
    rw [hb13.cell (p := ⟨w.heap.size, 8, none⟩) (show w.heap.size < _ by (try simp) <;> (try omega))]
    exact q12_0_8
  have q13_0_9 : w13.cell? ⟨w.heap.size, 9, none⟩ = some (.int .i64 N.wait) := by
    rw [hb13.cell (p := ⟨w.heap.size, 9, none⟩) (show w.heap.size < _ by (try simp) <;> (try omega))]
    exact q12_0_9
  have q13_0_10 : w13.cell? ⟨w.heap.size, 10, none⟩ = some (.slice av N.votes.length cv) := by
    rw [hb13.cell (p := ⟨w.heap.size, 10, none⟩) (show w.heap.size < _ by (try simp) <;> (try omega))]
    exact q12_0_10
  have q13_0_11 : w13.cell? ⟨w.heap.size, 11, none⟩ = some (.slice an N.next.length cn) := by
    rw [hb13.cell (p := ⟨w.heap.size, 11, none⟩) (show w.heap.size < _ by (try simp) <;> (try omega))]
    exact q12_0_11
  have q13_0_12 : w13.cell? ⟨w.heap.size, 12, none⟩ = some (.slice am N.mtch.length cm) := by
    rw [hb13.cell (p := ⟨w.heap.size, 12, none⟩) (show w.heap.size < _ by (try simp) <;> (try omega))]
    exact q12_0_12
  have hl13_0 : w.heap.size < w13.heap.size := by omega
  clear q12_0_0 q12_0_1 q12_0_2 q12_0_3 q12_0_4 q12_0_5 q12_0_6 q12_0_7 q12_0_8 q12_0_9 q12_0_10 q12_0_11 q12_0_12
  have HB13 : Hid (Below w.heap.size w w13) := HB12.out.trans (hb13.mono (by (try simp) <;> (try omega)))
  clear hb13
  go_wp2_with fail
  refine (implComm_c al13 cl13 av13 cv13 an13 cn13 am13 cm13 N _ HX1313.out.sl HZ.out HX1313.out.cap).mono ?_
  rw [hrw.out.1, hrw.out.2]
  rintro e w14 ⟨a14, c14, rfl, hf14, hb14⟩
  have hz14 := hb14.size
  have HG1414 := Lib.hid (show FreshIn strE 9 1 (w13.heap.size) w14.heap.size (.slice a14 R.length c14) R w14 from (by simpa using hf14.here))
  clear hf14
  have HG314 := Lib.hid (HG313.out.below hb14)
  clear HG313
  have HM14 := Lib.hid (HM13.out.below hb14)
  clear HM13
  have HX1314 := Lib.hid (HX1313.out.below hb14)
  clear HX1313
  have q14_0_0 : w14.cell? ⟨w.heap.size, 0, none⟩ = some (.int .i64 N.id) := by
    rw [hb14.cell (p := ⟨w.heap.size, 0, none⟩) (show w.heap.size < _ by (try simp) <;> (try omega))]
    exact q13_0_0
  have q14_0_1 : w14.cell? ⟨w.heap.size, 1, none⟩ = some (.int .i64 N.nodes) := by
    rw [hb14.cell (p := ⟨w.heap.size, 1, none⟩) (show w.heap.size < _ by (try simp) <;> (try omega))]
    exact q13_0_1
  have q14_0_2 : w14.cell? ⟨w.heap.size, 2, none⟩ = some (.int .i64 N.term) := by
    rw [hb14.cell (p := ⟨w.heap.size, 2, none⟩) (show w.heap.size < _ by (try simp) <;> (try omega))]
    exact q13_0_2
  have q14_0_3 : w14.cell? ⟨w.heap.size, 3, none⟩ = some (.int .i64 N.vote) := by
    rw [hb14.cell (p := ⟨w.heap.size, 3, none⟩) (show w.heap.size < _ by (try simp) <;> (try omega))]
    exact q13_0_3
  have q14_0_4 : w14.cell? ⟨w.heap.size, 4, none⟩ = some (.int .i64 N.role) := by
    rw [hb14.cell (p := ⟨w.heap.size, 4, none⟩) (show w.heap.size < _ by (try simp) <;> (try omega))]
    exact q13_0_4
  have q14_0_5 : w14.cell? ⟨w.heap.size, 5, none⟩ = some (.bool N.up) := by
    rw [hb14.cell (p := ⟨w.heap.size, 5, none⟩) (show w.heap.size < _ by (try simp) <;> (try omega))]
    exact q13_0_5
  have q14_0_6 : w14.cell? ⟨w.heap.size, 6, none⟩ = some (.slice al N.log.length cl) := by
    rw [hb14.cell (p := ⟨w.heap.size, 6, none⟩) (show w.heap.size < _ by (try simp) <;> (try omega))]
    exact q13_0_6
  have q14_0_7 : w14.cell? ⟨w.heap.size, 7, none⟩ = some (.int .i64 N.commit) := by
    rw [hb14.cell (p := ⟨w.heap.size, 7, none⟩) (show w.heap.size < _ by (try simp) <;> (try omega))]
    exact q13_0_7
  have q14_0_8 : w14.cell? ⟨w.heap.size, 8, none⟩ = some (.int .i64 N.elapsed) := by
    rw [hb14.cell (p := ⟨w.heap.size, 8, none⟩) (show w.heap.size < _ by (try simp) <;> (try omega))]
    exact q13_0_8
  have q14_0_9 : w14.cell? ⟨w.heap.size, 9, none⟩ = some (.int .i64 N.wait) := by
    rw [hb14.cell (p := ⟨w.heap.size, 9, none⟩) (show w.heap.size < _ by (try simp) <;> (try omega))]
    exact q13_0_9
  have q14_0_10 : w14.cell? ⟨w.heap.size, 10, none⟩ = some (.slice av N.votes.length cv) := by
    rw [hb14.cell (p := ⟨w.heap.size, 10, none⟩) (show w.heap.size < _ by (try simp) <;> (try omega))]
    exact q13_0_10
  have q14_0_11 : w14.cell? ⟨w.heap.size, 11, none⟩ = some (.slice an N.next.length cn) := by
    rw [hb14.cell (p := ⟨w.heap.size, 11, none⟩) (show w.heap.size < _ by (try simp) <;> (try omega))]
    exact q13_0_11
  have q14_0_12 : w14.cell? ⟨w.heap.size, 12, none⟩ = some (.slice am N.mtch.length cm) := by
    rw [hb14.cell (p := ⟨w.heap.size, 12, none⟩) (show w.heap.size < _ by (try simp) <;> (try omega))]
    exact q13_0_12
  have hl14_0 : w.heap.size < w14.heap.size := by omega
  clear q13_0_0 q13_0_1 q13_0_2 q13_0_3 q13_0_4 q13_0_5 q13_0_6 q13_0_7 q13_0_8 q13_0_9 q13_0_10 q13_0_11 q13_0_12
  have HB14 : Hid (Below w.heap.size w w14) := HB13.out.trans (hb14.mono (by (try simp) <;> (try omega)))
  clear hb14
  go_wp2_with fail
  refine (eqStringS_c a14 a3 c14 c3 R R _ (HG1414.out.sl fun _ => rfl) (HG314.out.sl fun _ => rfl) hcl hcl).mono ?_
  simp only [decide_true]
  rintro e w15 ⟨rfl, hb15⟩
  have hz15 := hb15.size
  have HG315 := Lib.hid (HG314.out.below hb15)
  clear HG314
  have HM15 := Lib.hid (HM14.out.below hb15)
  clear HM14
  have HX1315 := Lib.hid (HX1314.out.below hb15)
  clear HX1314
  have HG1415 := Lib.hid (HG1414.out.below hb15)
  clear HG1414
  have q15_0_0 : w15.cell? ⟨w.heap.size, 0, none⟩ = some (.int .i64 N.id) := by
    rw [hb15.cell (p := ⟨w.heap.size, 0, none⟩) (show w.heap.size < _ by (try simp) <;> (try omega))]
    exact q14_0_0
  have q15_0_1 : w15.cell? ⟨w.heap.size, 1, none⟩ = some (.int .i64 N.nodes) := by
    rw [hb15.cell (p := ⟨w.heap.size, 1, none⟩) (show w.heap.size < _ by (try simp) <;> (try omega))]
    exact q14_0_1
  have q15_0_2 : w15.cell? ⟨w.heap.size, 2, none⟩ = some (.int .i64 N.term) := by
    rw [hb15.cell (p := ⟨w.heap.size, 2, none⟩) (show w.heap.size < _ by (try simp) <;> (try omega))]
    exact q14_0_2
  have q15_0_3 : w15.cell? ⟨w.heap.size, 3, none⟩ = some (.int .i64 N.vote) := by
    rw [hb15.cell (p := ⟨w.heap.size, 3, none⟩) (show w.heap.size < _ by (try simp) <;> (try omega))]
    exact q14_0_3
  have q15_0_4 : w15.cell? ⟨w.heap.size, 4, none⟩ = some (.int .i64 N.role) := by
    rw [hb15.cell (p := ⟨w.heap.size, 4, none⟩) (show w.heap.size < _ by (try simp) <;> (try omega))]
    exact q14_0_4
  have q15_0_5 : w15.cell? ⟨w.heap.size, 5, none⟩ = some (.bool N.up) := by
    rw [hb15.cell (p := ⟨w.heap.size, 5, none⟩) (show w.heap.size < _ by (try simp) <;> (try omega))]
    exact q14_0_5
  have q15_0_6 : w15.cell? ⟨w.heap.size, 6, none⟩ = some (.slice al N.log.length cl) := by
    rw [hb15.cell (p := ⟨w.heap.size, 6, none⟩) (show w.heap.size < _ by (try simp) <;> (try omega))]
    exact q14_0_6
  have q15_0_7 : w15.cell? ⟨w.heap.size, 7, none⟩ = some (.int .i64 N.commit) := by
    rw [hb15.cell (p := ⟨w.heap.size, 7, none⟩) (show w.heap.size < _ by (try simp) <;> (try omega))]
    exact q14_0_7
  have q15_0_8 : w15.cell? ⟨w.heap.size, 8, none⟩ = some (.int .i64 N.elapsed) := by
    rw [hb15.cell (p := ⟨w.heap.size, 8, none⟩) (show w.heap.size < _ by (try simp) <;> (try omega))]
    exact q14_0_8
  have q15_0_9 : w15.cell? ⟨w.heap.size, 9, none⟩ = some (.int .i64 N.wait) := by
    rw [hb15.cell (p := ⟨w.heap.size, 9, none⟩) (show w.heap.size < _ by (try simp) <;> (try omega))]
    exact q14_0_9
  have q15_0_10 : w15.cell? ⟨w.heap.size, 10, none⟩ = some (.slice av N.votes.length cv) := by
    rw [hb15.cell (p := ⟨w.heap.size, 10, none⟩) (show w.heap.size < _ by (try simp) <;> (try omega))]
    exact q14_0_10
  have q15_0_11 : w15.cell? ⟨w.heap.size, 11, none⟩ = some (.slice an N.next.length cn) := by
    rw [hb15.cell (p := ⟨w.heap.size, 11, none⟩) (show w.heap.size < _ by (try simp) <;> (try omega))]
    exact q14_0_11
  have q15_0_12 : w15.cell? ⟨w.heap.size, 12, none⟩ = some (.slice am N.mtch.length cm) := by
    rw [hb15.cell (p := ⟨w.heap.size, 12, none⟩) (show w.heap.size < _ by (try simp) <;> (try omega))]
    exact q14_0_12
  have hl15_0 : w.heap.size < w15.heap.size := by omega
  clear q14_0_0 q14_0_1 q14_0_2 q14_0_3 q14_0_4 q14_0_5 q14_0_6 q14_0_7 q14_0_8 q14_0_9 q14_0_10 q14_0_11 q14_0_12
  have HB15 : Hid (Below w.heap.size w w15) := HB14.out.trans (hb15.mono (by (try simp) <;> (try omega)))
  clear hb15
  go_wp2_with fail
  refine (heldStringS_c a5 c5 R.length 1 _ (HM15.out.slm) (by omega)).mono ?_
  rintro e w16 ⟨rfl, hb16⟩
  have hz16 := hb16.size
  have HG316 := Lib.hid (HG315.out.below hb16)
  clear HG315
  have HM16 := Lib.hid (HM15.out.below hb16)
  clear HM15
  have HX1316 := Lib.hid (HX1315.out.below hb16)
  clear HX1315
  have HG1416 := Lib.hid (HG1415.out.below hb16)
  clear HG1415
  have q16_0_0 : w16.cell? ⟨w.heap.size, 0, none⟩ = some (.int .i64 N.id) := by
    rw [hb16.cell (p := ⟨w.heap.size, 0, none⟩) (show w.heap.size < _ by (try simp) <;> (try omega))]
    exact q15_0_0
  have q16_0_1 : w16.cell? ⟨w.heap.size, 1, none⟩ = some (.int .i64 N.nodes) := by
    rw [hb16.cell (p := ⟨w.heap.size, 1, none⟩) (show w.heap.size < _ by (try simp) <;> (try omega))]
    exact q15_0_1
  have q16_0_2 : w16.cell? ⟨w.heap.size, 2, none⟩ = some (.int .i64 N.term) := by
    rw [hb16.cell (p := ⟨w.heap.size, 2, none⟩) (show w.heap.size < _ by (try simp) <;> (try omega))]
    exact q15_0_2
  have q16_0_3 : w16.cell? ⟨w.heap.size, 3, none⟩ = some (.int .i64 N.vote) := by
    rw [hb16.cell (p := ⟨w.heap.size, 3, none⟩) (show w.heap.size < _ by (try simp) <;> (try omega))]
    exact q15_0_3
  have q16_0_4 : w16.cell? ⟨w.heap.size, 4, none⟩ = some (.int .i64 N.role) := by
    rw [hb16.cell (p := ⟨w.heap.size, 4, none⟩) (show w.heap.size < _ by (try simp) <;> (try omega))]
    exact q15_0_4
  have q16_0_5 : w16.cell? ⟨w.heap.size, 5, none⟩ = some (.bool N.up) := by
    rw [hb16.cell (p := ⟨w.heap.size, 5, none⟩) (show w.heap.size < _ by (try simp) <;> (try omega))]
    exact q15_0_5
  have q16_0_6 : w16.cell? ⟨w.heap.size, 6, none⟩ = some (.slice al N.log.length cl) := by
    rw [hb16.cell (p := ⟨w.heap.size, 6, none⟩) (show w.heap.size < _ by (try simp) <;> (try omega))]
    exact q15_0_6
  have q16_0_7 : w16.cell? ⟨w.heap.size, 7, none⟩ = some (.int .i64 N.commit) := by
    rw [hb16.cell (p := ⟨w.heap.size, 7, none⟩) (show w.heap.size < _ by (try simp) <;> (try omega))]
    exact q15_0_7
  have q16_0_8 : w16.cell? ⟨w.heap.size, 8, none⟩ = some (.int .i64 N.elapsed) := by
    rw [hb16.cell (p := ⟨w.heap.size, 8, none⟩) (show w.heap.size < _ by (try simp) <;> (try omega))]
    exact q15_0_8
  have q16_0_9 : w16.cell? ⟨w.heap.size, 9, none⟩ = some (.int .i64 N.wait) := by
    rw [hb16.cell (p := ⟨w.heap.size, 9, none⟩) (show w.heap.size < _ by (try simp) <;> (try omega))]
    exact q15_0_9
  have q16_0_10 : w16.cell? ⟨w.heap.size, 10, none⟩ = some (.slice av N.votes.length cv) := by
    rw [hb16.cell (p := ⟨w.heap.size, 10, none⟩) (show w.heap.size < _ by (try simp) <;> (try omega))]
    exact q15_0_10
  have q16_0_11 : w16.cell? ⟨w.heap.size, 11, none⟩ = some (.slice an N.next.length cn) := by
    rw [hb16.cell (p := ⟨w.heap.size, 11, none⟩) (show w.heap.size < _ by (try simp) <;> (try omega))]
    exact q15_0_11
  have q16_0_12 : w16.cell? ⟨w.heap.size, 12, none⟩ = some (.slice am N.mtch.length cm) := by
    rw [hb16.cell (p := ⟨w.heap.size, 12, none⟩) (show w.heap.size < _ by (try simp) <;> (try omega))]
    exact q15_0_12
  have hl16_0 : w.heap.size < w16.heap.size := by omega
  clear q15_0_0 q15_0_1 q15_0_2 q15_0_3 q15_0_4 q15_0_5 q15_0_6 q15_0_7 q15_0_8 q15_0_9 q15_0_10 q15_0_11 q15_0_12
  have HB16 : Hid (Below w.heap.size w w16) := HB15.out.trans (hb16.mono (by (try simp) <;> (try omega)))
  clear hb16
  go_wp2_with fail
  go_ret
  exact ⟨rfl, HB16.out⟩
end Go.Proofs.Ytmkgmecpjppgcaa
