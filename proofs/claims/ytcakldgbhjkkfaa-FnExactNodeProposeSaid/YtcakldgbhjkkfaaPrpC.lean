/- The law FnExactNodePropose: its walk. -/
import Derived.Test.YtcakldgbhjkkfaaPrpB
import Derived.Deep.RegionHeld3
namespace Go.Proofs.Ytcakldgbhjkkfaa
set_option linter.unusedVariables false
set_option linter.unusedSimpArgs false
section
open Go.RowKit
theorem msz {rs : List MsgA} {Ls : List MsgV} (h : rs.map (·.M) = Ls) (k : ∀ x ∈ Ls, MsgSz x 1048576) : ∀ r ∈ rs, MsgSz r.M 1048576 := fun r hr => k _ (by rw [← h]; exact List.mem_map_of_mem hr)
theorem mlen {rs : List MsgA} {Ls : List MsgV} (h : rs.map (·.M) = Ls) (k : Ls.length ≤ 5) : rs.length ≤ 1048576 := by rw [← h] at k; simp at k; omega
theorem mbd {K : Nat} {rs : List MsgA} {Ls : List MsgV} (hK : K ≤ 10485760) (h : rs.map (·.M) = Ls) (k : ∀ x ∈ Ls, MsgSz x 1048576) (l : Ls.length ≤ 5) : messageNum K rs ≤ 17592186044416 := by
  have h1 := messageNum_bd K 2097160 rs (fun r hr => by have := (msz h k r hr).ents; unfold messageCnt; omega)
  have h2 : rs.length ≤ 5 := by rw [← h] at l; simpa using l
  have h3 : rs.length * 2097160 ≤ 5 * 2097160 := Nat.mul_le_mul_right _ h2
  omega
set_option maxRecDepth 100000 in
set_option maxHeartbeats 16000000 in
theorem lawProp_c (al : Option Addr) (cl : Nat) (av : Option Addr) (cv : Nat) (an : Option Addr) (cn : Nat) (am : Option Addr) (cm : Nat) (N : NodeV) (d : ByteArray) (w : World) (hN : NodeSl w al av an am N) (hZ : NodeSz N 9223372036854775807) :
    Calls Try.prog 3 #[.agg #[.int .i64 N.id, .int .i64 N.nodes, .int .i64 N.term, .int .i64 N.vote, .int .i64 N.role, .bool N.up, .slice al N.log.length cl, .int .i64 N.commit, .int .i64 N.elapsed, .int .i64 N.wait, .slice av N.votes.length cv, .slice an N.next.length cn, .slice am N.mtch.length cm], .string d] w fun e w' => e = .returned (.bool true) ∧ Below w.heap.size w w' := by
  have HZ0 := Lib.hid hZ
  clear hZ
  by_cases hd : 1048576 < d.size
  · have hd1 : (1048576 : Int) < (d.size : Int) := by omega
    go_enter Try.func3, Try.ntmps3
    go_wp2_with fail
    go_ret
    exact ⟨rfl, (by repeat (first | exact Below.refl _ _ | (refine Below.alloc ?_ (by (try simp) <;> (try omega)) _) | (refine Below.setCell ?_ (by (try simp) <;> (try omega)) _) | (refine Below.drew ?_) | (refine Below.trans ?_ (Below.mono (by assumption) (by (try simp) <;> (try omega))))))⟩
  have hd1 : (d.size : Int) ≤ 1048576 := by omega
  have hd2 : d.size ≤ 1048576 := by omega
  clear hd
  go_enter Try.func3, Try.ntmps3
  go_wp2_with fail
  refine (szNode_c al cl av cv an cn am cm N _ _ (hN.alloc _) HZ0.out (by omega) (by omega)).mono ?_
  rintro e w1 ⟨⟨n, rfl, hn, himp⟩, hb1⟩
  have hz1 := hb1.size
  simp only [World.size_alloc] at hz1
  have HI := Lib.hid himp
  clear himp
  have q1_0_0 : w1.cell? ⟨w.heap.size, 0, none⟩ = some (.int .i64 N.id) := by
    rw [hb1.cell (p := ⟨w.heap.size, 0, none⟩) (show w.heap.size < _ by (try simp) <;> (try omega))]
    first | assumption | (simp [go_sem, *])
  have q1_0_1 : w1.cell? ⟨w.heap.size, 1, none⟩ = some (.int .i64 N.nodes) := by
    rw [hb1.cell (p := ⟨w.heap.size, 1, none⟩) (show w.heap.size < _ by (try simp) <;> (try omega))]
    first | assumption | (simp [go_sem, *])
  have q1_0_2 : w1.cell? ⟨w.heap.size, 2, none⟩ = some (.int .i64 N.term) := by
    rw [hb1.cell (p := ⟨w.heap.size, 2, none⟩) (show w.heap.size < _ by (try simp) <;> (try omega))]
    first | assumption | (simp [go_sem, *])
  have q1_0_3 : w1.cell? ⟨w.heap.size, 3, none⟩ = some (.int .i64 N.vote) := by
    rw [hb1.cell (p := ⟨w.heap.size, 3, none⟩) (show w.heap.size < _ by (try simp) <;> (try omega))]
    first | assumption | (simp [go_sem, *])
  have q1_0_4 : w1.cell? ⟨w.heap.size, 4, none⟩ = some (.int .i64 N.role) := by
    rw [hb1.cell (p := ⟨w.heap.size, 4, none⟩) (show w.heap.size < _ by (try simp) <;> (try omega))]
    first | assumption | (simp [go_sem, *])
  have q1_0_5 : w1.cell? ⟨w.heap.size, 5, none⟩ = some (.bool N.up) := by
    rw [hb1.cell (p := ⟨w.heap.size, 5, none⟩) (show w.heap.size < _ by (try simp) <;> (try omega))]
    first | assumption | (simp [go_sem, *])
  have q1_0_6 : w1.cell? ⟨w.heap.size, 6, none⟩ = some (.slice al N.log.length cl) := by
    rw [hb1.cell (p := ⟨w.heap.size, 6, none⟩) (show w.heap.size < _ by (try simp) <;> (try omega))]
    first | assumption | (simp [go_sem, *])
  have q1_0_7 : w1.cell? ⟨w.heap.size, 7, none⟩ = some (.int .i64 N.commit) := by
    rw [hb1.cell (p := ⟨w.heap.size, 7, none⟩) (show w.heap.size < _ by (try simp) <;> (try omega))]
    first | assumption | (simp [go_sem, *])
  have q1_0_8 : w1.cell? ⟨w.heap.size, 8, none⟩ = some (.int .i64 N.elapsed) := by
    rw [hb1.cell (p := ⟨w.heap.size, 8, none⟩) (show w.heap.size < _ by (try simp) <;> (try omega))]
    first | assumption | (simp [go_sem, *])
  have q1_0_9 : w1.cell? ⟨w.heap.size, 9, none⟩ = some (.int .i64 N.wait) := by
    rw [hb1.cell (p := ⟨w.heap.size, 9, none⟩) (show w.heap.size < _ by (try simp) <;> (try omega))]
    first | assumption | (simp [go_sem, *])
  have q1_0_10 : w1.cell? ⟨w.heap.size, 10, none⟩ = some (.slice av N.votes.length cv) := by
    rw [hb1.cell (p := ⟨w.heap.size, 10, none⟩) (show w.heap.size < _ by (try simp) <;> (try omega))]
    first | assumption | (simp [go_sem, *])
  have q1_0_11 : w1.cell? ⟨w.heap.size, 11, none⟩ = some (.slice an N.next.length cn) := by
    rw [hb1.cell (p := ⟨w.heap.size, 11, none⟩) (show w.heap.size < _ by (try simp) <;> (try omega))]
    first | assumption | (simp [go_sem, *])
  have q1_0_12 : w1.cell? ⟨w.heap.size, 12, none⟩ = some (.slice am N.mtch.length cm) := by
    rw [hb1.cell (p := ⟨w.heap.size, 12, none⟩) (show w.heap.size < _ by (try simp) <;> (try omega))]
    first | assumption | (simp [go_sem, *])
  have hl1_0 : w.heap.size < w1.heap.size := by omega
  have HB1 : Hid (Below w.heap.size w w1) := ((Below.refl w.heap.size w).alloc (by (try simp) <;> (try omega)) _).trans (hb1.mono (by (try simp) <;> (try omega)))
  clear hb1
  by_cases hneg : n < 0
  · go_wp2_with fail
    go_ret
    exact ⟨rfl, HB1.out⟩
  have HZ := Lib.hid (HI.out (by omega))
  obtain ⟨M, Ls, c, hR⟩ : ∃ M L c, propR N d = (M, L, c) := ⟨_, _, _, rfl⟩
  have HR := Lib.hid hR
  have hsz := propR_sz HZ.out hd2
  rw [hR] at hsz
  have HZM : Hid (NodeSz M 1048576) := Lib.hid hsz.1
  have HLL : Hid (Ls.length ≤ 5) := Lib.hid hsz.2.1
  have HLS : Hid (∀ x ∈ Ls, MsgSz x 1048576) := Lib.hid hsz.2.2
  have hmk : markNumX N 1 ≤ 1099511627776 := by have h1 := HZ.out.log; have h2 := HZ.out.votes; have h3 := HZ.out.next; have h4 := HZ.out.mtch; unfold markNumX; omega
  have hmk2 : markNumX M 1 ≤ 10485760 := by have h1 := HZM.out.log; have h2 := HZM.out.votes; have h3 := HZM.out.next; have h4 := HZM.out.mtch; unfold markNumX; omega
  have HMK := Lib.hid hmk
  have HMK2 : Hid (markNumX M 1 ≤ 1099511627776) := Lib.hid (by omega)
  obtain ⟨K0, hK0⟩ : ∃ K, markNumX N 1 = K := ⟨_, rfl⟩
  obtain ⟨K1, hK1⟩ : ∃ K, markNumX M 1 = K := ⟨_, rfl⟩
  have HK0 := Lib.hid hK0
  have HK1 := Lib.hid hK1
  have g0 : decide ((K0 : Int) < 0) = false := decide_eq_false (by omega)
  have g1 : decide ((K1 : Int) < 0) = false := decide_eq_false (by omega)
  have HK1b : Hid (K1 ≤ 10485760) := Lib.hid (by omega)
  clear HI hR hsz hmk hmk2 hK0 hK1
  go_wp2_with fail
  refine (toNode_c al cl av cv an cn am cm N _ (hN.keep HB1.out) HZ.out).mono ?_
  rintro e w2 ⟨al2, cl2, av2, cv2, an2, cn2, am2, cm2, rfl, hf2, hb2⟩
  have hz2 := hb2.size
  have HX22 := Lib.hid (show FreshNodeX (w1.heap.size) w2.heap.size N w2 al2 cl2 av2 cv2 an2 cn2 am2 cm2 from (by simpa using hf2.hereX))
  clear hf2
  have q2_0_0 : w2.cell? ⟨w.heap.size, 0, none⟩ = some (.int .i64 N.id) := by
    rw [hb2.cell (p := ⟨w.heap.size, 0, none⟩) (show w.heap.size < _ by (try simp) <;> (try omega))]
    exact q1_0_0
  have q2_0_1 : w2.cell? ⟨w.heap.size, 1, none⟩ = some (.int .i64 N.nodes) := by
    rw [hb2.cell (p := ⟨w.heap.size, 1, none⟩) (show w.heap.size < _ by (try simp) <;> (try omega))]
    exact q1_0_1
  have q2_0_2 : w2.cell? ⟨w.heap.size, 2, none⟩ = some (.int .i64 N.term) := by
    rw [hb2.cell (p := ⟨w.heap.size, 2, none⟩) (show w.heap.size < _ by (try simp) <;> (try omega))]
    exact q1_0_2
  have q2_0_3 : w2.cell? ⟨w.heap.size, 3, none⟩ = some (.int .i64 N.vote) := by
    rw [hb2.cell (p := ⟨w.heap.size, 3, none⟩) (show w.heap.size < _ by (try simp) <;> (try omega))]
    exact q1_0_3
  have q2_0_4 : w2.cell? ⟨w.heap.size, 4, none⟩ = some (.int .i64 N.role) := by
    rw [hb2.cell (p := ⟨w.heap.size, 4, none⟩) (show w.heap.size < _ by (try simp) <;> (try omega))]
    exact q1_0_4
  have q2_0_5 : w2.cell? ⟨w.heap.size, 5, none⟩ = some (.bool N.up) := by
    rw [hb2.cell (p := ⟨w.heap.size, 5, none⟩) (show w.heap.size < _ by (try simp) <;> (try omega))]
    exact q1_0_5
  have q2_0_6 : w2.cell? ⟨w.heap.size, 6, none⟩ = some (.slice al N.log.length cl) := by
    rw [hb2.cell (p := ⟨w.heap.size, 6, none⟩) (show w.heap.size < _ by (try simp) <;> (try omega))]
    exact q1_0_6
  have q2_0_7 : w2.cell? ⟨w.heap.size, 7, none⟩ = some (.int .i64 N.commit) := by
    rw [hb2.cell (p := ⟨w.heap.size, 7, none⟩) (show w.heap.size < _ by (try simp) <;> (try omega))]
    exact q1_0_7
  have q2_0_8 : w2.cell? ⟨w.heap.size, 8, none⟩ = some (.int .i64 N.elapsed) := by
    rw [hb2.cell (p := ⟨w.heap.size, 8, none⟩) (show w.heap.size < _ by (try simp) <;> (try omega))]
    exact q1_0_8
  have q2_0_9 : w2.cell? ⟨w.heap.size, 9, none⟩ = some (.int .i64 N.wait) := by
    rw [hb2.cell (p := ⟨w.heap.size, 9, none⟩) (show w.heap.size < _ by (try simp) <;> (try omega))]
    exact q1_0_9
  have q2_0_10 : w2.cell? ⟨w.heap.size, 10, none⟩ = some (.slice av N.votes.length cv) := by
    rw [hb2.cell (p := ⟨w.heap.size, 10, none⟩) (show w.heap.size < _ by (try simp) <;> (try omega))]
    exact q1_0_10
  have q2_0_11 : w2.cell? ⟨w.heap.size, 11, none⟩ = some (.slice an N.next.length cn) := by
    rw [hb2.cell (p := ⟨w.heap.size, 11, none⟩) (show w.heap.size < _ by (try simp) <;> (try omega))]
    exact q1_0_11
  have q2_0_12 : w2.cell? ⟨w.heap.size, 12, none⟩ = some (.slice am N.mtch.length cm) := by
    rw [hb2.cell (p := ⟨w.heap.size, 12, none⟩) (show w.heap.size < _ by (try simp) <;> (try omega))]
    exact q1_0_12
  have hl2_0 : w.heap.size < w2.heap.size := by omega
  clear q1_0_0 q1_0_1 q1_0_2 q1_0_3 q1_0_4 q1_0_5 q1_0_6 q1_0_7 q1_0_8 q1_0_9 q1_0_10 q1_0_11 q1_0_12
  have HB2 : Hid (Below w.heap.size w w2) := HB1.out.trans (hb2.mono (by (try simp) <;> (try omega)))
  clear hb2
  go_wp2_with fail
  refine (specProp_c al2 cl2 av2 cv2 an2 cn2 am2 cm2 N d _ HX22.out.sl HZ.out hd2).mono ?_
  rw [HR.out]
  unfold PropS
  rintro e w3 ⟨al3, cl3, av3, cv3, an3, cn3, am3, cm3, rs3, ar3, cr3, rfl, hrs3, hns3, hms3, hb3⟩
  have hz3 := hb3.size
  have HRS3 : Hid (rs3.map (·.M) = Ls) := Lib.hid hrs3
  have HS3 : Hid (SpD w3.heap.size w3 M al3 cl3 av3 cv3 an3 cn3 am3 cm3 ar3 rs3) := Lib.hid (SpD.start hns3 hms3)
  simp only
  clear hrs3 hns3 hms3
  have HX23 := Lib.hid (HX22.out.below hb3)
  clear HX22
  have q3_0_0 : w3.cell? ⟨w.heap.size, 0, none⟩ = some (.int .i64 N.id) := by
    rw [hb3.cell (p := ⟨w.heap.size, 0, none⟩) (show w.heap.size < _ by (try simp) <;> (try omega))]
    exact q2_0_0
  have q3_0_1 : w3.cell? ⟨w.heap.size, 1, none⟩ = some (.int .i64 N.nodes) := by
    rw [hb3.cell (p := ⟨w.heap.size, 1, none⟩) (show w.heap.size < _ by (try simp) <;> (try omega))]
    exact q2_0_1
  have q3_0_2 : w3.cell? ⟨w.heap.size, 2, none⟩ = some (.int .i64 N.term) := by
    rw [hb3.cell (p := ⟨w.heap.size, 2, none⟩) (show w.heap.size < _ by (try simp) <;> (try omega))]
    exact q2_0_2
  have q3_0_3 : w3.cell? ⟨w.heap.size, 3, none⟩ = some (.int .i64 N.vote) := by
    rw [hb3.cell (p := ⟨w.heap.size, 3, none⟩) (show w.heap.size < _ by (try simp) <;> (try omega))]
    exact q2_0_3
  have q3_0_4 : w3.cell? ⟨w.heap.size, 4, none⟩ = some (.int .i64 N.role) := by
    rw [hb3.cell (p := ⟨w.heap.size, 4, none⟩) (show w.heap.size < _ by (try simp) <;> (try omega))]
    exact q2_0_4
  have q3_0_5 : w3.cell? ⟨w.heap.size, 5, none⟩ = some (.bool N.up) := by
    rw [hb3.cell (p := ⟨w.heap.size, 5, none⟩) (show w.heap.size < _ by (try simp) <;> (try omega))]
    exact q2_0_5
  have q3_0_6 : w3.cell? ⟨w.heap.size, 6, none⟩ = some (.slice al N.log.length cl) := by
    rw [hb3.cell (p := ⟨w.heap.size, 6, none⟩) (show w.heap.size < _ by (try simp) <;> (try omega))]
    exact q2_0_6
  have q3_0_7 : w3.cell? ⟨w.heap.size, 7, none⟩ = some (.int .i64 N.commit) := by
    rw [hb3.cell (p := ⟨w.heap.size, 7, none⟩) (show w.heap.size < _ by (try simp) <;> (try omega))]
    exact q2_0_7
  have q3_0_8 : w3.cell? ⟨w.heap.size, 8, none⟩ = some (.int .i64 N.elapsed) := by
    rw [hb3.cell (p := ⟨w.heap.size, 8, none⟩) (show w.heap.size < _ by (try simp) <;> (try omega))]
    exact q2_0_8
  have q3_0_9 : w3.cell? ⟨w.heap.size, 9, none⟩ = some (.int .i64 N.wait) := by
    rw [hb3.cell (p := ⟨w.heap.size, 9, none⟩) (show w.heap.size < _ by (try simp) <;> (try omega))]
    exact q2_0_9
  have q3_0_10 : w3.cell? ⟨w.heap.size, 10, none⟩ = some (.slice av N.votes.length cv) := by
    rw [hb3.cell (p := ⟨w.heap.size, 10, none⟩) (show w.heap.size < _ by (try simp) <;> (try omega))]
    exact q2_0_10
  have q3_0_11 : w3.cell? ⟨w.heap.size, 11, none⟩ = some (.slice an N.next.length cn) := by
    rw [hb3.cell (p := ⟨w.heap.size, 11, none⟩) (show w.heap.size < _ by (try simp) <;> (try omega))]
    exact q2_0_11
  have q3_0_12 : w3.cell? ⟨w.heap.size, 12, none⟩ = some (.slice am N.mtch.length cm) := by
    rw [hb3.cell (p := ⟨w.heap.size, 12, none⟩) (show w.heap.size < _ by (try simp) <;> (try omega))]
    exact q2_0_12
  have hl3_0 : w.heap.size < w3.heap.size := by omega
  clear q2_0_0 q2_0_1 q2_0_2 q2_0_3 q2_0_4 q2_0_5 q2_0_6 q2_0_7 q2_0_8 q2_0_9 q2_0_10 q2_0_11 q2_0_12
  have HB3 : Hid (Below w.heap.size w w3) := HB2.out.trans (hb3.mono (by (try simp) <;> (try omega)))
  clear hb3
  clear HX23
  go_wp2_with fail
  refine (toNode_c al cl av cv an cn am cm N _ ((hN.keep HB3.out).alloc _) HZ.out).mono ?_
  rintro e w4 ⟨al4, cl4, av4, cv4, an4, cn4, am4, cm4, rfl, hf4, hb4⟩
  have hz4 := hb4.size
  simp only [World.size_alloc] at hz4
  have HX44 := Lib.hid (show FreshNodeX (w3.heap.size + 1) w4.heap.size N w4 al4 cl4 av4 cv4 an4 cn4 am4 cm4 from (by simpa using hf4.hereX))
  clear hf4
  have HS4 := Lib.hid ((HS3.out.alloc _).below hb4)
  clear HS3
  have q4_0_0 : w4.cell? ⟨w.heap.size, 0, none⟩ = some (.int .i64 N.id) := by
    rw [hb4.cell (p := ⟨w.heap.size, 0, none⟩) (show w.heap.size < _ by (try simp) <;> (try omega))]
    first | assumption | (simp [go_sem, *])
  have q4_0_1 : w4.cell? ⟨w.heap.size, 1, none⟩ = some (.int .i64 N.nodes) := by
    rw [hb4.cell (p := ⟨w.heap.size, 1, none⟩) (show w.heap.size < _ by (try simp) <;> (try omega))]
    first | assumption | (simp [go_sem, *])
  have q4_0_2 : w4.cell? ⟨w.heap.size, 2, none⟩ = some (.int .i64 N.term) := by
    rw [hb4.cell (p := ⟨w.heap.size, 2, none⟩) (show w.heap.size < _ by (try simp) <;> (try omega))]
    first | assumption | (simp [go_sem, *])
  have q4_0_3 : w4.cell? ⟨w.heap.size, 3, none⟩ = some (.int .i64 N.vote) := by
    rw [hb4.cell (p := ⟨w.heap.size, 3, none⟩) (show w.heap.size < _ by (try simp) <;> (try omega))]
    first | assumption | (simp [go_sem, *])
  have q4_0_4 : w4.cell? ⟨w.heap.size, 4, none⟩ = some (.int .i64 N.role) := by
    rw [hb4.cell (p := ⟨w.heap.size, 4, none⟩) (show w.heap.size < _ by (try simp) <;> (try omega))]
    first | assumption | (simp [go_sem, *])
  have q4_0_5 : w4.cell? ⟨w.heap.size, 5, none⟩ = some (.bool N.up) := by
    rw [hb4.cell (p := ⟨w.heap.size, 5, none⟩) (show w.heap.size < _ by (try simp) <;> (try omega))]
    first | assumption | (simp [go_sem, *])
  have q4_0_6 : w4.cell? ⟨w.heap.size, 6, none⟩ = some (.slice al N.log.length cl) := by
    rw [hb4.cell (p := ⟨w.heap.size, 6, none⟩) (show w.heap.size < _ by (try simp) <;> (try omega))]
    first | assumption | (simp [go_sem, *])
  have q4_0_7 : w4.cell? ⟨w.heap.size, 7, none⟩ = some (.int .i64 N.commit) := by
    rw [hb4.cell (p := ⟨w.heap.size, 7, none⟩) (show w.heap.size < _ by (try simp) <;> (try omega))]
    first | assumption | (simp [go_sem, *])
  have q4_0_8 : w4.cell? ⟨w.heap.size, 8, none⟩ = some (.int .i64 N.elapsed) := by
    rw [hb4.cell (p := ⟨w.heap.size, 8, none⟩) (show w.heap.size < _ by (try simp) <;> (try omega))]
    first | assumption | (simp [go_sem, *])
  have q4_0_9 : w4.cell? ⟨w.heap.size, 9, none⟩ = some (.int .i64 N.wait) := by
    rw [hb4.cell (p := ⟨w.heap.size, 9, none⟩) (show w.heap.size < _ by (try simp) <;> (try omega))]
    first | assumption | (simp [go_sem, *])
  have q4_0_10 : w4.cell? ⟨w.heap.size, 10, none⟩ = some (.slice av N.votes.length cv) := by
    rw [hb4.cell (p := ⟨w.heap.size, 10, none⟩) (show w.heap.size < _ by (try simp) <;> (try omega))]
    first | assumption | (simp [go_sem, *])
  have q4_0_11 : w4.cell? ⟨w.heap.size, 11, none⟩ = some (.slice an N.next.length cn) := by
    rw [hb4.cell (p := ⟨w.heap.size, 11, none⟩) (show w.heap.size < _ by (try simp) <;> (try omega))]
    first | assumption | (simp [go_sem, *])
  have q4_0_12 : w4.cell? ⟨w.heap.size, 12, none⟩ = some (.slice am N.mtch.length cm) := by
    rw [hb4.cell (p := ⟨w.heap.size, 12, none⟩) (show w.heap.size < _ by (try simp) <;> (try omega))]
    first | assumption | (simp [go_sem, *])
  have hl4_0 : w.heap.size < w4.heap.size := by omega
  clear q3_0_0 q3_0_1 q3_0_2 q3_0_3 q3_0_4 q3_0_5 q3_0_6 q3_0_7 q3_0_8 q3_0_9 q3_0_10 q3_0_11 q3_0_12
  have q4_1_0 : w4.cell? ⟨w3.heap.size, 0, none⟩ = some (.int .i64 M.id) := by
    rw [hb4.cell (p := ⟨w3.heap.size, 0, none⟩) (show w3.heap.size < _ by (try simp) <;> (try omega))]
    first | assumption | (simp [go_sem, *])
  have q4_1_1 : w4.cell? ⟨w3.heap.size, 1, none⟩ = some (.int .i64 M.nodes) := by
    rw [hb4.cell (p := ⟨w3.heap.size, 1, none⟩) (show w3.heap.size < _ by (try simp) <;> (try omega))]
    first | assumption | (simp [go_sem, *])
  have q4_1_2 : w4.cell? ⟨w3.heap.size, 2, none⟩ = some (.int .i64 M.term) := by
    rw [hb4.cell (p := ⟨w3.heap.size, 2, none⟩) (show w3.heap.size < _ by (try simp) <;> (try omega))]
    first | assumption | (simp [go_sem, *])
  have q4_1_3 : w4.cell? ⟨w3.heap.size, 3, none⟩ = some (.int .i64 M.vote) := by
    rw [hb4.cell (p := ⟨w3.heap.size, 3, none⟩) (show w3.heap.size < _ by (try simp) <;> (try omega))]
    first | assumption | (simp [go_sem, *])
  have q4_1_4 : w4.cell? ⟨w3.heap.size, 4, none⟩ = some (.int .i64 M.role) := by
    rw [hb4.cell (p := ⟨w3.heap.size, 4, none⟩) (show w3.heap.size < _ by (try simp) <;> (try omega))]
    first | assumption | (simp [go_sem, *])
  have q4_1_5 : w4.cell? ⟨w3.heap.size, 5, none⟩ = some (.bool M.up) := by
    rw [hb4.cell (p := ⟨w3.heap.size, 5, none⟩) (show w3.heap.size < _ by (try simp) <;> (try omega))]
    first | assumption | (simp [go_sem, *])
  have q4_1_6 : w4.cell? ⟨w3.heap.size, 6, none⟩ = some (.slice al3 M.log.length cl3) := by
    rw [hb4.cell (p := ⟨w3.heap.size, 6, none⟩) (show w3.heap.size < _ by (try simp) <;> (try omega))]
    first | assumption | (simp [go_sem, *])
  have q4_1_7 : w4.cell? ⟨w3.heap.size, 7, none⟩ = some (.int .i64 M.commit) := by
    rw [hb4.cell (p := ⟨w3.heap.size, 7, none⟩) (show w3.heap.size < _ by (try simp) <;> (try omega))]
    first | assumption | (simp [go_sem, *])
  have q4_1_8 : w4.cell? ⟨w3.heap.size, 8, none⟩ = some (.int .i64 M.elapsed) := by
    rw [hb4.cell (p := ⟨w3.heap.size, 8, none⟩) (show w3.heap.size < _ by (try simp) <;> (try omega))]
    first | assumption | (simp [go_sem, *])
  have q4_1_9 : w4.cell? ⟨w3.heap.size, 9, none⟩ = some (.int .i64 M.wait) := by
    rw [hb4.cell (p := ⟨w3.heap.size, 9, none⟩) (show w3.heap.size < _ by (try simp) <;> (try omega))]
    first | assumption | (simp [go_sem, *])
  have q4_1_10 : w4.cell? ⟨w3.heap.size, 10, none⟩ = some (.slice av3 M.votes.length cv3) := by
    rw [hb4.cell (p := ⟨w3.heap.size, 10, none⟩) (show w3.heap.size < _ by (try simp) <;> (try omega))]
    first | assumption | (simp [go_sem, *])
  have q4_1_11 : w4.cell? ⟨w3.heap.size, 11, none⟩ = some (.slice an3 M.next.length cn3) := by
    rw [hb4.cell (p := ⟨w3.heap.size, 11, none⟩) (show w3.heap.size < _ by (try simp) <;> (try omega))]
    first | assumption | (simp [go_sem, *])
  have q4_1_12 : w4.cell? ⟨w3.heap.size, 12, none⟩ = some (.slice am3 M.mtch.length cm3) := by
    rw [hb4.cell (p := ⟨w3.heap.size, 12, none⟩) (show w3.heap.size < _ by (try simp) <;> (try omega))]
    first | assumption | (simp [go_sem, *])
  have hl4_1 : w3.heap.size < w4.heap.size := by omega
  have HB4 : Hid (Below w.heap.size w w4) := (HB3.out.alloc (by (try simp) <;> (try omega)) _).trans (hb4.mono (by (try simp) <;> (try omega)))
  clear hb4
  go_wp2_with fail
  refine (implProp_c al4 cl4 av4 cv4 an4 cn4 am4 cm4 N d _ (HX44.out.alloc _).sl HZ.out hd2).mono ?_
  rw [HR.out]
  unfold PropI
  rintro e w5 ⟨al5, cl5, av5, cv5, an5, cn5, am5, cm5, rs5, ar5, cr5, md5, rfl, hrs5, hfn5, hmd5, hsa5, hb5⟩
  have hz5 := hb5.size
  simp only [World.size_alloc] at hz5
  have HRS5 : Hid (rs5.map (·.M) = Ls) := Lib.hid hrs5
  have HI5 := Lib.hid (show FreshNodeX (w4.heap.size + 1) md5 M w5 al5 cl5 av5 cv5 an5 cn5 am5 cm5 from (by simpa using hfn5))
  have HY5 := Lib.hid (SaI.part hsa5)
  have hlm5 : w4.heap.size + 1 ≤ md5 := by
    obtain ⟨l1, b1, v1, b2, n1, n2, m1, m2, h1, _⟩ := HI5.out
    omega
  simp only
  clear hrs5 hfn5 hsa5
  have HS5 := Lib.hid ((HS4.out.alloc _).below hb5)
  clear HS4
  have HX45 := Lib.hid ((HX44.out.alloc _).below hb5)
  clear HX44
  have q5_0_0 : w5.cell? ⟨w.heap.size, 0, none⟩ = some (.int .i64 N.id) := by
    rw [hb5.cell (p := ⟨w.heap.size, 0, none⟩) (show w.heap.size < _ by (try simp) <;> (try omega))]
    first | assumption | (simp [go_sem, *])
  have q5_0_1 : w5.cell? ⟨w.heap.size, 1, none⟩ = some (.int .i64 N.nodes) := by
    rw [hb5.cell (p := ⟨w.heap.size, 1, none⟩) (show w.heap.size < _ by (try simp) <;> (try omega))]
    first | assumption | (simp [go_sem, *])
  have q5_0_2 : w5.cell? ⟨w.heap.size, 2, none⟩ = some (.int .i64 N.term) := by
    rw [hb5.cell (p := ⟨w.heap.size, 2, none⟩) (show w.heap.size < _ by (try simp) <;> (try omega))]
    first | assumption | (simp [go_sem, *])
  have q5_0_3 : w5.cell? ⟨w.heap.size, 3, none⟩ = some (.int .i64 N.vote) := by
    rw [hb5.cell (p := ⟨w.heap.size, 3, none⟩) (show w.heap.size < _ by (try simp) <;> (try omega))]
    first | assumption | (simp [go_sem, *])
  have q5_0_4 : w5.cell? ⟨w.heap.size, 4, none⟩ = some (.int .i64 N.role) := by
    rw [hb5.cell (p := ⟨w.heap.size, 4, none⟩) (show w.heap.size < _ by (try simp) <;> (try omega))]
    first | assumption | (simp [go_sem, *])
  have q5_0_5 : w5.cell? ⟨w.heap.size, 5, none⟩ = some (.bool N.up) := by
    rw [hb5.cell (p := ⟨w.heap.size, 5, none⟩) (show w.heap.size < _ by (try simp) <;> (try omega))]
    first | assumption | (simp [go_sem, *])
  have q5_0_6 : w5.cell? ⟨w.heap.size, 6, none⟩ = some (.slice al N.log.length cl) := by
    rw [hb5.cell (p := ⟨w.heap.size, 6, none⟩) (show w.heap.size < _ by (try simp) <;> (try omega))]
    first | assumption | (simp [go_sem, *])
  have q5_0_7 : w5.cell? ⟨w.heap.size, 7, none⟩ = some (.int .i64 N.commit) := by
    rw [hb5.cell (p := ⟨w.heap.size, 7, none⟩) (show w.heap.size < _ by (try simp) <;> (try omega))]
    first | assumption | (simp [go_sem, *])
  have q5_0_8 : w5.cell? ⟨w.heap.size, 8, none⟩ = some (.int .i64 N.elapsed) := by
    rw [hb5.cell (p := ⟨w.heap.size, 8, none⟩) (show w.heap.size < _ by (try simp) <;> (try omega))]
    first | assumption | (simp [go_sem, *])
  have q5_0_9 : w5.cell? ⟨w.heap.size, 9, none⟩ = some (.int .i64 N.wait) := by
    rw [hb5.cell (p := ⟨w.heap.size, 9, none⟩) (show w.heap.size < _ by (try simp) <;> (try omega))]
    first | assumption | (simp [go_sem, *])
  have q5_0_10 : w5.cell? ⟨w.heap.size, 10, none⟩ = some (.slice av N.votes.length cv) := by
    rw [hb5.cell (p := ⟨w.heap.size, 10, none⟩) (show w.heap.size < _ by (try simp) <;> (try omega))]
    first | assumption | (simp [go_sem, *])
  have q5_0_11 : w5.cell? ⟨w.heap.size, 11, none⟩ = some (.slice an N.next.length cn) := by
    rw [hb5.cell (p := ⟨w.heap.size, 11, none⟩) (show w.heap.size < _ by (try simp) <;> (try omega))]
    first | assumption | (simp [go_sem, *])
  have q5_0_12 : w5.cell? ⟨w.heap.size, 12, none⟩ = some (.slice am N.mtch.length cm) := by
    rw [hb5.cell (p := ⟨w.heap.size, 12, none⟩) (show w.heap.size < _ by (try simp) <;> (try omega))]
    first | assumption | (simp [go_sem, *])
  have hl5_0 : w.heap.size < w5.heap.size := by omega
  clear q4_0_0 q4_0_1 q4_0_2 q4_0_3 q4_0_4 q4_0_5 q4_0_6 q4_0_7 q4_0_8 q4_0_9 q4_0_10 q4_0_11 q4_0_12
  have q5_1_0 : w5.cell? ⟨w3.heap.size, 0, none⟩ = some (.int .i64 M.id) := by
    rw [hb5.cell (p := ⟨w3.heap.size, 0, none⟩) (show w3.heap.size < _ by (try simp) <;> (try omega))]
    first | assumption | (simp [go_sem, *])
  have q5_1_1 : w5.cell? ⟨w3.heap.size, 1, none⟩ = some (.int .i64 M.nodes) := by
    rw [hb5.cell (p := ⟨w3.heap.size, 1, none⟩) (show w3.heap.size < _ by (try simp) <;> (try omega))]
    first | assumption | (simp [go_sem, *])
  have q5_1_2 : w5.cell? ⟨w3.heap.size, 2, none⟩ = some (.int .i64 M.term) := by
    rw [hb5.cell (p := ⟨w3.heap.size, 2, none⟩) (show w3.heap.size < _ by (try simp) <;> (try omega))]
    first | assumption | (simp [go_sem, *])
  have q5_1_3 : w5.cell? ⟨w3.heap.size, 3, none⟩ = some (.int .i64 M.vote) := by
    rw [hb5.cell (p := ⟨w3.heap.size, 3, none⟩) (show w3.heap.size < _ by (try simp) <;> (try omega))]
    first | assumption | (simp [go_sem, *])
  have q5_1_4 : w5.cell? ⟨w3.heap.size, 4, none⟩ = some (.int .i64 M.role) := by
    rw [hb5.cell (p := ⟨w3.heap.size, 4, none⟩) (show w3.heap.size < _ by (try simp) <;> (try omega))]
    first | assumption | (simp [go_sem, *])
  have q5_1_5 : w5.cell? ⟨w3.heap.size, 5, none⟩ = some (.bool M.up) := by
    rw [hb5.cell (p := ⟨w3.heap.size, 5, none⟩) (show w3.heap.size < _ by (try simp) <;> (try omega))]
    first | assumption | (simp [go_sem, *])
  have q5_1_6 : w5.cell? ⟨w3.heap.size, 6, none⟩ = some (.slice al3 M.log.length cl3) := by
    rw [hb5.cell (p := ⟨w3.heap.size, 6, none⟩) (show w3.heap.size < _ by (try simp) <;> (try omega))]
    first | assumption | (simp [go_sem, *])
  have q5_1_7 : w5.cell? ⟨w3.heap.size, 7, none⟩ = some (.int .i64 M.commit) := by
    rw [hb5.cell (p := ⟨w3.heap.size, 7, none⟩) (show w3.heap.size < _ by (try simp) <;> (try omega))]
    first | assumption | (simp [go_sem, *])
  have q5_1_8 : w5.cell? ⟨w3.heap.size, 8, none⟩ = some (.int .i64 M.elapsed) := by
    rw [hb5.cell (p := ⟨w3.heap.size, 8, none⟩) (show w3.heap.size < _ by (try simp) <;> (try omega))]
    first | assumption | (simp [go_sem, *])
  have q5_1_9 : w5.cell? ⟨w3.heap.size, 9, none⟩ = some (.int .i64 M.wait) := by
    rw [hb5.cell (p := ⟨w3.heap.size, 9, none⟩) (show w3.heap.size < _ by (try simp) <;> (try omega))]
    first | assumption | (simp [go_sem, *])
  have q5_1_10 : w5.cell? ⟨w3.heap.size, 10, none⟩ = some (.slice av3 M.votes.length cv3) := by
    rw [hb5.cell (p := ⟨w3.heap.size, 10, none⟩) (show w3.heap.size < _ by (try simp) <;> (try omega))]
    first | assumption | (simp [go_sem, *])
  have q5_1_11 : w5.cell? ⟨w3.heap.size, 11, none⟩ = some (.slice an3 M.next.length cn3) := by
    rw [hb5.cell (p := ⟨w3.heap.size, 11, none⟩) (show w3.heap.size < _ by (try simp) <;> (try omega))]
    first | assumption | (simp [go_sem, *])
  have q5_1_12 : w5.cell? ⟨w3.heap.size, 12, none⟩ = some (.slice am3 M.mtch.length cm3) := by
    rw [hb5.cell (p := ⟨w3.heap.size, 12, none⟩) (show w3.heap.size < _ by (try simp) <;> (try omega))]
    first | assumption | (simp [go_sem, *])
  have hl5_1 : w3.heap.size < w5.heap.size := by omega
  clear q4_1_0 q4_1_1 q4_1_2 q4_1_3 q4_1_4 q4_1_5 q4_1_6 q4_1_7 q4_1_8 q4_1_9 q4_1_10 q4_1_11 q4_1_12
  have q5_2_0 : w5.cell? ⟨w4.heap.size, 0, none⟩ = some (.int .i64 N.id) := by
    rw [hb5.cell (p := ⟨w4.heap.size, 0, none⟩) (show w4.heap.size < _ by (try simp) <;> (try omega))]
    first | assumption | (simp [go_sem, *])
  have q5_2_1 : w5.cell? ⟨w4.heap.size, 1, none⟩ = some (.int .i64 N.nodes) := by
    rw [hb5.cell (p := ⟨w4.heap.size, 1, none⟩) (show w4.heap.size < _ by (try simp) <;> (try omega))]
    first | assumption | (simp [go_sem, *])
  have q5_2_2 : w5.cell? ⟨w4.heap.size, 2, none⟩ = some (.int .i64 N.term) := by
    rw [hb5.cell (p := ⟨w4.heap.size, 2, none⟩) (show w4.heap.size < _ by (try simp) <;> (try omega))]
    first | assumption | (simp [go_sem, *])
  have q5_2_3 : w5.cell? ⟨w4.heap.size, 3, none⟩ = some (.int .i64 N.vote) := by
    rw [hb5.cell (p := ⟨w4.heap.size, 3, none⟩) (show w4.heap.size < _ by (try simp) <;> (try omega))]
    first | assumption | (simp [go_sem, *])
  have q5_2_4 : w5.cell? ⟨w4.heap.size, 4, none⟩ = some (.int .i64 N.role) := by
    rw [hb5.cell (p := ⟨w4.heap.size, 4, none⟩) (show w4.heap.size < _ by (try simp) <;> (try omega))]
    first | assumption | (simp [go_sem, *])
  have q5_2_5 : w5.cell? ⟨w4.heap.size, 5, none⟩ = some (.bool N.up) := by
    rw [hb5.cell (p := ⟨w4.heap.size, 5, none⟩) (show w4.heap.size < _ by (try simp) <;> (try omega))]
    first | assumption | (simp [go_sem, *])
  have q5_2_6 : w5.cell? ⟨w4.heap.size, 6, none⟩ = some (.slice al4 N.log.length cl4) := by
    rw [hb5.cell (p := ⟨w4.heap.size, 6, none⟩) (show w4.heap.size < _ by (try simp) <;> (try omega))]
    first | assumption | (simp [go_sem, *])
  have q5_2_7 : w5.cell? ⟨w4.heap.size, 7, none⟩ = some (.int .i64 N.commit) := by
    rw [hb5.cell (p := ⟨w4.heap.size, 7, none⟩) (show w4.heap.size < _ by (try simp) <;> (try omega))]
    first | assumption | (simp [go_sem, *])
  have q5_2_8 : w5.cell? ⟨w4.heap.size, 8, none⟩ = some (.int .i64 N.elapsed) := by
    rw [hb5.cell (p := ⟨w4.heap.size, 8, none⟩) (show w4.heap.size < _ by (try simp) <;> (try omega))]
    first | assumption | (simp [go_sem, *])
  have q5_2_9 : w5.cell? ⟨w4.heap.size, 9, none⟩ = some (.int .i64 N.wait) := by
    rw [hb5.cell (p := ⟨w4.heap.size, 9, none⟩) (show w4.heap.size < _ by (try simp) <;> (try omega))]
    first | assumption | (simp [go_sem, *])
  have q5_2_10 : w5.cell? ⟨w4.heap.size, 10, none⟩ = some (.slice av4 N.votes.length cv4) := by
    rw [hb5.cell (p := ⟨w4.heap.size, 10, none⟩) (show w4.heap.size < _ by (try simp) <;> (try omega))]
    first | assumption | (simp [go_sem, *])
  have q5_2_11 : w5.cell? ⟨w4.heap.size, 11, none⟩ = some (.slice an4 N.next.length cn4) := by
    rw [hb5.cell (p := ⟨w4.heap.size, 11, none⟩) (show w4.heap.size < _ by (try simp) <;> (try omega))]
    first | assumption | (simp [go_sem, *])
  have q5_2_12 : w5.cell? ⟨w4.heap.size, 12, none⟩ = some (.slice am4 N.mtch.length cm4) := by
    rw [hb5.cell (p := ⟨w4.heap.size, 12, none⟩) (show w4.heap.size < _ by (try simp) <;> (try omega))]
    first | assumption | (simp [go_sem, *])
  have hl5_2 : w4.heap.size < w5.heap.size := by omega
  have HB5 : Hid (Below w.heap.size w w5) := (HB4.out.alloc (by (try simp) <;> (try omega)) _).trans (hb5.mono (by (try simp) <;> (try omega)))
  clear hb5
  go_wp2_with fail
  refine (eqNode_same al5 cl5 av5 cv5 an5 cn5 am5 cm5 al3 cl3 av3 cv3 an3 cn3 am3 cm3 M _ ((HI5.out.alloc _).sl) ((HS5.out.alloc _).node) HZM.out).mono ?_
  rintro e w6 ⟨rfl, hb6⟩
  have hz6 := hb6.size
  simp only [World.size_alloc] at hz6
  have HS6 := Lib.hid ((HS5.out.alloc _).below hb6)
  clear HS5
  have HX46 := Lib.hid ((HX45.out.alloc _).below hb6)
  clear HX45
  have HI56 := Lib.hid ((HI5.out.alloc _).below hb6)
  clear HI5
  have HY56 := Lib.hid ((HY5.out.alloc _).below hb6)
  clear HY5
  have q6_0_0 : w6.cell? ⟨w.heap.size, 0, none⟩ = some (.int .i64 N.id) := by
    rw [hb6.cell (p := ⟨w.heap.size, 0, none⟩) (show w.heap.size < _ by (try simp) <;> (try omega))]
    first | assumption | (simp [go_sem, *])
  have q6_0_1 : w6.cell? ⟨w.heap.size, 1, none⟩ = some (.int .i64 N.nodes) := by
    rw [hb6.cell (p := ⟨w.heap.size, 1, none⟩) (show w.heap.size < _ by (try simp) <;> (try omega))]
    first | assumption | (simp [go_sem, *])
  have q6_0_2 : w6.cell? ⟨w.heap.size, 2, none⟩ = some (.int .i64 N.term) := by
    rw [hb6.cell (p := ⟨w.heap.size, 2, none⟩) (show w.heap.size < _ by (try simp) <;> (try omega))]
    first | assumption | (simp [go_sem, *])
  have q6_0_3 : w6.cell? ⟨w.heap.size, 3, none⟩ = some (.int .i64 N.vote) := by
    rw [hb6.cell (p := ⟨w.heap.size, 3, none⟩) (show w.heap.size < _ by (try simp) <;> (try omega))]
    first | assumption | (simp [go_sem, *])
  have q6_0_4 : w6.cell? ⟨w.heap.size, 4, none⟩ = some (.int .i64 N.role) := by
    rw [hb6.cell (p := ⟨w.heap.size, 4, none⟩) (show w.heap.size < _ by (try simp) <;> (try omega))]
    first | assumption | (simp [go_sem, *])
  have q6_0_5 : w6.cell? ⟨w.heap.size, 5, none⟩ = some (.bool N.up) := by
    rw [hb6.cell (p := ⟨w.heap.size, 5, none⟩) (show w.heap.size < _ by (try simp) <;> (try omega))]
    first | assumption | (simp [go_sem, *])
  have q6_0_6 : w6.cell? ⟨w.heap.size, 6, none⟩ = some (.slice al N.log.length cl) := by
    rw [hb6.cell (p := ⟨w.heap.size, 6, none⟩) (show w.heap.size < _ by (try simp) <;> (try omega))]
    first | assumption | (simp [go_sem, *])
  have q6_0_7 : w6.cell? ⟨w.heap.size, 7, none⟩ = some (.int .i64 N.commit) := by
    rw [hb6.cell (p := ⟨w.heap.size, 7, none⟩) (show w.heap.size < _ by (try simp) <;> (try omega))]
    first | assumption | (simp [go_sem, *])
  have q6_0_8 : w6.cell? ⟨w.heap.size, 8, none⟩ = some (.int .i64 N.elapsed) := by
    rw [hb6.cell (p := ⟨w.heap.size, 8, none⟩) (show w.heap.size < _ by (try simp) <;> (try omega))]
    first | assumption | (simp [go_sem, *])
  have q6_0_9 : w6.cell? ⟨w.heap.size, 9, none⟩ = some (.int .i64 N.wait) := by
    rw [hb6.cell (p := ⟨w.heap.size, 9, none⟩) (show w.heap.size < _ by (try simp) <;> (try omega))]
    first | assumption | (simp [go_sem, *])
  have q6_0_10 : w6.cell? ⟨w.heap.size, 10, none⟩ = some (.slice av N.votes.length cv) := by
    rw [hb6.cell (p := ⟨w.heap.size, 10, none⟩) (show w.heap.size < _ by (try simp) <;> (try omega))]
    first | assumption | (simp [go_sem, *])
  have q6_0_11 : w6.cell? ⟨w.heap.size, 11, none⟩ = some (.slice an N.next.length cn) := by
    rw [hb6.cell (p := ⟨w.heap.size, 11, none⟩) (show w.heap.size < _ by (try simp) <;> (try omega))]
    first | assumption | (simp [go_sem, *])
  have q6_0_12 : w6.cell? ⟨w.heap.size, 12, none⟩ = some (.slice am N.mtch.length cm) := by
    rw [hb6.cell (p := ⟨w.heap.size, 12, none⟩) (show w.heap.size < _ by (try simp) <;> (try omega))]
    first | assumption | (simp [go_sem, *])
  have hl6_0 : w.heap.size < w6.heap.size := by omega
  clear q5_0_0 q5_0_1 q5_0_2 q5_0_3 q5_0_4 q5_0_5 q5_0_6 q5_0_7 q5_0_8 q5_0_9 q5_0_10 q5_0_11 q5_0_12
  have q6_1_0 : w6.cell? ⟨w3.heap.size, 0, none⟩ = some (.int .i64 M.id) := by
    rw [hb6.cell (p := ⟨w3.heap.size, 0, none⟩) (show w3.heap.size < _ by (try simp) <;> (try omega))]
    first | assumption | (simp [go_sem, *])
  have q6_1_1 : w6.cell? ⟨w3.heap.size, 1, none⟩ = some (.int .i64 M.nodes) := by
    rw [hb6.cell (p := ⟨w3.heap.size, 1, none⟩) (show w3.heap.size < _ by (try simp) <;> (try omega))]
    first | assumption | (simp [go_sem, *])
  have q6_1_2 : w6.cell? ⟨w3.heap.size, 2, none⟩ = some (.int .i64 M.term) := by
    rw [hb6.cell (p := ⟨w3.heap.size, 2, none⟩) (show w3.heap.size < _ by (try simp) <;> (try omega))]
    first | assumption | (simp [go_sem, *])
  have q6_1_3 : w6.cell? ⟨w3.heap.size, 3, none⟩ = some (.int .i64 M.vote) := by
    rw [hb6.cell (p := ⟨w3.heap.size, 3, none⟩) (show w3.heap.size < _ by (try simp) <;> (try omega))]
    first | assumption | (simp [go_sem, *])
  have q6_1_4 : w6.cell? ⟨w3.heap.size, 4, none⟩ = some (.int .i64 M.role) := by
    rw [hb6.cell (p := ⟨w3.heap.size, 4, none⟩) (show w3.heap.size < _ by (try simp) <;> (try omega))]
    first | assumption | (simp [go_sem, *])
  have q6_1_5 : w6.cell? ⟨w3.heap.size, 5, none⟩ = some (.bool M.up) := by
    rw [hb6.cell (p := ⟨w3.heap.size, 5, none⟩) (show w3.heap.size < _ by (try simp) <;> (try omega))]
    first | assumption | (simp [go_sem, *])
  have q6_1_6 : w6.cell? ⟨w3.heap.size, 6, none⟩ = some (.slice al3 M.log.length cl3) := by
    rw [hb6.cell (p := ⟨w3.heap.size, 6, none⟩) (show w3.heap.size < _ by (try simp) <;> (try omega))]
    first | assumption | (simp [go_sem, *])
  have q6_1_7 : w6.cell? ⟨w3.heap.size, 7, none⟩ = some (.int .i64 M.commit) := by
    rw [hb6.cell (p := ⟨w3.heap.size, 7, none⟩) (show w3.heap.size < _ by (try simp) <;> (try omega))]
    first | assumption | (simp [go_sem, *])
  have q6_1_8 : w6.cell? ⟨w3.heap.size, 8, none⟩ = some (.int .i64 M.elapsed) := by
    rw [hb6.cell (p := ⟨w3.heap.size, 8, none⟩) (show w3.heap.size < _ by (try simp) <;> (try omega))]
    first | assumption | (simp [go_sem, *])
  have q6_1_9 : w6.cell? ⟨w3.heap.size, 9, none⟩ = some (.int .i64 M.wait) := by
    rw [hb6.cell (p := ⟨w3.heap.size, 9, none⟩) (show w3.heap.size < _ by (try simp) <;> (try omega))]
    first | assumption | (simp [go_sem, *])
  have q6_1_10 : w6.cell? ⟨w3.heap.size, 10, none⟩ = some (.slice av3 M.votes.length cv3) := by
    rw [hb6.cell (p := ⟨w3.heap.size, 10, none⟩) (show w3.heap.size < _ by (try simp) <;> (try omega))]
    first | assumption | (simp [go_sem, *])
  have q6_1_11 : w6.cell? ⟨w3.heap.size, 11, none⟩ = some (.slice an3 M.next.length cn3) := by
    rw [hb6.cell (p := ⟨w3.heap.size, 11, none⟩) (show w3.heap.size < _ by (try simp) <;> (try omega))]
    first | assumption | (simp [go_sem, *])
  have q6_1_12 : w6.cell? ⟨w3.heap.size, 12, none⟩ = some (.slice am3 M.mtch.length cm3) := by
    rw [hb6.cell (p := ⟨w3.heap.size, 12, none⟩) (show w3.heap.size < _ by (try simp) <;> (try omega))]
    first | assumption | (simp [go_sem, *])
  have hl6_1 : w3.heap.size < w6.heap.size := by omega
  clear q5_1_0 q5_1_1 q5_1_2 q5_1_3 q5_1_4 q5_1_5 q5_1_6 q5_1_7 q5_1_8 q5_1_9 q5_1_10 q5_1_11 q5_1_12
  have q6_2_0 : w6.cell? ⟨w4.heap.size, 0, none⟩ = some (.int .i64 N.id) := by
    rw [hb6.cell (p := ⟨w4.heap.size, 0, none⟩) (show w4.heap.size < _ by (try simp) <;> (try omega))]
    first | assumption | (simp [go_sem, *])
  have q6_2_1 : w6.cell? ⟨w4.heap.size, 1, none⟩ = some (.int .i64 N.nodes) := by
    rw [hb6.cell (p := ⟨w4.heap.size, 1, none⟩) (show w4.heap.size < _ by (try simp) <;> (try omega))]
    first | assumption | (simp [go_sem, *])
  have q6_2_2 : w6.cell? ⟨w4.heap.size, 2, none⟩ = some (.int .i64 N.term) := by
    rw [hb6.cell (p := ⟨w4.heap.size, 2, none⟩) (show w4.heap.size < _ by (try simp) <;> (try omega))]
    first | assumption | (simp [go_sem, *])
  have q6_2_3 : w6.cell? ⟨w4.heap.size, 3, none⟩ = some (.int .i64 N.vote) := by
    rw [hb6.cell (p := ⟨w4.heap.size, 3, none⟩) (show w4.heap.size < _ by (try simp) <;> (try omega))]
    first | assumption | (simp [go_sem, *])
  have q6_2_4 : w6.cell? ⟨w4.heap.size, 4, none⟩ = some (.int .i64 N.role) := by
    rw [hb6.cell (p := ⟨w4.heap.size, 4, none⟩) (show w4.heap.size < _ by (try simp) <;> (try omega))]
    first | assumption | (simp [go_sem, *])
  have q6_2_5 : w6.cell? ⟨w4.heap.size, 5, none⟩ = some (.bool N.up) := by
    rw [hb6.cell (p := ⟨w4.heap.size, 5, none⟩) (show w4.heap.size < _ by (try simp) <;> (try omega))]
    first | assumption | (simp [go_sem, *])
  have q6_2_6 : w6.cell? ⟨w4.heap.size, 6, none⟩ = some (.slice al4 N.log.length cl4) := by
    rw [hb6.cell (p := ⟨w4.heap.size, 6, none⟩) (show w4.heap.size < _ by (try simp) <;> (try omega))]
    first | assumption | (simp [go_sem, *])
  have q6_2_7 : w6.cell? ⟨w4.heap.size, 7, none⟩ = some (.int .i64 N.commit) := by
    rw [hb6.cell (p := ⟨w4.heap.size, 7, none⟩) (show w4.heap.size < _ by (try simp) <;> (try omega))]
    first | assumption | (simp [go_sem, *])
  have q6_2_8 : w6.cell? ⟨w4.heap.size, 8, none⟩ = some (.int .i64 N.elapsed) := by
    rw [hb6.cell (p := ⟨w4.heap.size, 8, none⟩) (show w4.heap.size < _ by (try simp) <;> (try omega))]
    first | assumption | (simp [go_sem, *])
  have q6_2_9 : w6.cell? ⟨w4.heap.size, 9, none⟩ = some (.int .i64 N.wait) := by
    rw [hb6.cell (p := ⟨w4.heap.size, 9, none⟩) (show w4.heap.size < _ by (try simp) <;> (try omega))]
    first | assumption | (simp [go_sem, *])
  have q6_2_10 : w6.cell? ⟨w4.heap.size, 10, none⟩ = some (.slice av4 N.votes.length cv4) := by
    rw [hb6.cell (p := ⟨w4.heap.size, 10, none⟩) (show w4.heap.size < _ by (try simp) <;> (try omega))]
    first | assumption | (simp [go_sem, *])
  have q6_2_11 : w6.cell? ⟨w4.heap.size, 11, none⟩ = some (.slice an4 N.next.length cn4) := by
    rw [hb6.cell (p := ⟨w4.heap.size, 11, none⟩) (show w4.heap.size < _ by (try simp) <;> (try omega))]
    first | assumption | (simp [go_sem, *])
  have q6_2_12 : w6.cell? ⟨w4.heap.size, 12, none⟩ = some (.slice am4 N.mtch.length cm4) := by
    rw [hb6.cell (p := ⟨w4.heap.size, 12, none⟩) (show w4.heap.size < _ by (try simp) <;> (try omega))]
    first | assumption | (simp [go_sem, *])
  have hl6_2 : w4.heap.size < w6.heap.size := by omega
  clear q5_2_0 q5_2_1 q5_2_2 q5_2_3 q5_2_4 q5_2_5 q5_2_6 q5_2_7 q5_2_8 q5_2_9 q5_2_10 q5_2_11 q5_2_12
  have q6_3_0 : w6.cell? ⟨w5.heap.size, 0, none⟩ = some (.int .i64 M.id) := by
    rw [hb6.cell (p := ⟨w5.heap.size, 0, none⟩) (show w5.heap.size < _ by (try simp) <;> (try omega))]
    first | assumption | (simp [go_sem, *])
  have q6_3_1 : w6.cell? ⟨w5.heap.size, 1, none⟩ = some (.int .i64 M.nodes) := by
    rw [hb6.cell (p := ⟨w5.heap.size, 1, none⟩) (show w5.heap.size < _ by (try simp) <;> (try omega))]
    first | assumption | (simp [go_sem, *])
  have q6_3_2 : w6.cell? ⟨w5.heap.size, 2, none⟩ = some (.int .i64 M.term) := by
    rw [hb6.cell (p := ⟨w5.heap.size, 2, none⟩) (show w5.heap.size < _ by (try simp) <;> (try omega))]
    first | assumption | (simp [go_sem, *])
  have q6_3_3 : w6.cell? ⟨w5.heap.size, 3, none⟩ = some (.int .i64 M.vote) := by
    rw [hb6.cell (p := ⟨w5.heap.size, 3, none⟩) (show w5.heap.size < _ by (try simp) <;> (try omega))]
    first | assumption | (simp [go_sem, *])
  have q6_3_4 : w6.cell? ⟨w5.heap.size, 4, none⟩ = some (.int .i64 M.role) := by
    rw [hb6.cell (p := ⟨w5.heap.size, 4, none⟩) (show w5.heap.size < _ by (try simp) <;> (try omega))]
    first | assumption | (simp [go_sem, *])
  have q6_3_5 : w6.cell? ⟨w5.heap.size, 5, none⟩ = some (.bool M.up) := by
    rw [hb6.cell (p := ⟨w5.heap.size, 5, none⟩) (show w5.heap.size < _ by (try simp) <;> (try omega))]
    first | assumption | (simp [go_sem, *])
  have q6_3_6 : w6.cell? ⟨w5.heap.size, 6, none⟩ = some (.slice al5 M.log.length cl5) := by
    rw [hb6.cell (p := ⟨w5.heap.size, 6, none⟩) (show w5.heap.size < _ by (try simp) <;> (try omega))]
    first | assumption | (simp [go_sem, *])
  have q6_3_7 : w6.cell? ⟨w5.heap.size, 7, none⟩ = some (.int .i64 M.commit) := by
    rw [hb6.cell (p := ⟨w5.heap.size, 7, none⟩) (show w5.heap.size < _ by (try simp) <;> (try omega))]
    first | assumption | (simp [go_sem, *])
  have q6_3_8 : w6.cell? ⟨w5.heap.size, 8, none⟩ = some (.int .i64 M.elapsed) := by
    rw [hb6.cell (p := ⟨w5.heap.size, 8, none⟩) (show w5.heap.size < _ by (try simp) <;> (try omega))]
    first | assumption | (simp [go_sem, *])
  have q6_3_9 : w6.cell? ⟨w5.heap.size, 9, none⟩ = some (.int .i64 M.wait) := by
    rw [hb6.cell (p := ⟨w5.heap.size, 9, none⟩) (show w5.heap.size < _ by (try simp) <;> (try omega))]
    first | assumption | (simp [go_sem, *])
  have q6_3_10 : w6.cell? ⟨w5.heap.size, 10, none⟩ = some (.slice av5 M.votes.length cv5) := by
    rw [hb6.cell (p := ⟨w5.heap.size, 10, none⟩) (show w5.heap.size < _ by (try simp) <;> (try omega))]
    first | assumption | (simp [go_sem, *])
  have q6_3_11 : w6.cell? ⟨w5.heap.size, 11, none⟩ = some (.slice an5 M.next.length cn5) := by
    rw [hb6.cell (p := ⟨w5.heap.size, 11, none⟩) (show w5.heap.size < _ by (try simp) <;> (try omega))]
    first | assumption | (simp [go_sem, *])
  have q6_3_12 : w6.cell? ⟨w5.heap.size, 12, none⟩ = some (.slice am5 M.mtch.length cm5) := by
    rw [hb6.cell (p := ⟨w5.heap.size, 12, none⟩) (show w5.heap.size < _ by (try simp) <;> (try omega))]
    first | assumption | (simp [go_sem, *])
  have hl6_3 : w5.heap.size < w6.heap.size := by omega
  have HB6 : Hid (Below w.heap.size w w6) := (HB5.out.alloc (by (try simp) <;> (try omega)) _).trans (hb6.mono (by (try simp) <;> (try omega)))
  clear hb6
  go_wp2_with fail
  refine (eqMessageS_same ar5 ar3 cr5 cr3 rs5 rs3 _ (HY56.out.s) (HS6.out.msgs) (HRS3.out.trans HRS5.out.symm) (msz HRS5.out HLS.out) (mlen HRS5.out HLL.out)).mono ?_
  rintro e w7 ⟨rfl, hb7⟩
  have hz7 := hb7.size
  have HS7 := Lib.hid (HS6.out.below hb7)
  clear HS6
  have HX47 := Lib.hid (HX46.out.below hb7)
  clear HX46
  have HI57 := Lib.hid (HI56.out.below hb7)
  clear HI56
  have HY57 := Lib.hid (HY56.out.below hb7)
  clear HY56
  have q7_0_0 : w7.cell? ⟨w.heap.size, 0, none⟩ = some (.int .i64 N.id) := by
    rw [hb7.cell (p := ⟨w.heap.size, 0, none⟩) (show w.heap.size < _ by (try simp) <;> (try omega))]
    exact q6_0_0
  have q7_0_1 : w7.cell? ⟨w.heap.size, 1, none⟩ = some (.int .i64 N.nodes) := by
    rw [hb7.cell (p := ⟨w.heap.size, 1, none⟩) (show w.heap.size < _ by (try simp) <;> (try omega))]
    exact q6_0_1
  have q7_0_2 : w7.cell? ⟨w.heap.size, 2, none⟩ = some (.int .i64 N.term) := by
    rw [hb7.cell (p := ⟨w.heap.size, 2, none⟩) (show w.heap.size < _ by (try simp) <;> (try omega))]
    exact q6_0_2
  have q7_0_3 : w7.cell? ⟨w.heap.size, 3, none⟩ = some (.int .i64 N.vote) := by
    rw [hb7.cell (p := ⟨w.heap.size, 3, none⟩) (show w.heap.size < _ by (try simp) <;> (try omega))]
    exact q6_0_3
  have q7_0_4 : w7.cell? ⟨w.heap.size, 4, none⟩ = some (.int .i64 N.role) := by
    rw [hb7.cell (p := ⟨w.heap.size, 4, none⟩) (show w.heap.size < _ by (try simp) <;> (try omega))]
    exact q6_0_4
  have q7_0_5 : w7.cell? ⟨w.heap.size, 5, none⟩ = some (.bool N.up) := by
    rw [hb7.cell (p := ⟨w.heap.size, 5, none⟩) (show w.heap.size < _ by (try simp) <;> (try omega))]
    exact q6_0_5
  have q7_0_6 : w7.cell? ⟨w.heap.size, 6, none⟩ = some (.slice al N.log.length cl) := by
    rw [hb7.cell (p := ⟨w.heap.size, 6, none⟩) (show w.heap.size < _ by (try simp) <;> (try omega))]
    exact q6_0_6
  have q7_0_7 : w7.cell? ⟨w.heap.size, 7, none⟩ = some (.int .i64 N.commit) := by
    rw [hb7.cell (p := ⟨w.heap.size, 7, none⟩) (show w.heap.size < _ by (try simp) <;> (try omega))]
    exact q6_0_7
  have q7_0_8 : w7.cell? ⟨w.heap.size, 8, none⟩ = some (.int .i64 N.elapsed) := by
    rw [hb7.cell (p := ⟨w.heap.size, 8, none⟩) (show w.heap.size < _ by (try simp) <;> (try omega))]
    exact q6_0_8
  have q7_0_9 : w7.cell? ⟨w.heap.size, 9, none⟩ = some (.int .i64 N.wait) := by
    rw [hb7.cell (p := ⟨w.heap.size, 9, none⟩) (show w.heap.size < _ by (try simp) <;> (try omega))]
    exact q6_0_9
  have q7_0_10 : w7.cell? ⟨w.heap.size, 10, none⟩ = some (.slice av N.votes.length cv) := by
    rw [hb7.cell (p := ⟨w.heap.size, 10, none⟩) (show w.heap.size < _ by (try simp) <;> (try omega))]
    exact q6_0_10
  have q7_0_11 : w7.cell? ⟨w.heap.size, 11, none⟩ = some (.slice an N.next.length cn) := by
    rw [hb7.cell (p := ⟨w.heap.size, 11, none⟩) (show w.heap.size < _ by (try simp) <;> (try omega))]
    exact q6_0_11
  have q7_0_12 : w7.cell? ⟨w.heap.size, 12, none⟩ = some (.slice am N.mtch.length cm) := by
    rw [hb7.cell (p := ⟨w.heap.size, 12, none⟩) (show w.heap.size < _ by (try simp) <;> (try omega))]
    exact q6_0_12
  have hl7_0 : w.heap.size < w7.heap.size := by omega
  clear q6_0_0 q6_0_1 q6_0_2 q6_0_3 q6_0_4 q6_0_5 q6_0_6 q6_0_7 q6_0_8 q6_0_9 q6_0_10 q6_0_11 q6_0_12
  have q7_1_0 : w7.cell? ⟨w3.heap.size, 0, none⟩ = some (.int .i64 M.id) := by
    rw [hb7.cell (p := ⟨w3.heap.size, 0, none⟩) (show w3.heap.size < _ by (try simp) <;> (try omega))]
    exact q6_1_0
  have q7_1_1 : w7.cell? ⟨w3.heap.size, 1, none⟩ = some (.int .i64 M.nodes) := by
    rw [hb7.cell (p := ⟨w3.heap.size, 1, none⟩) (show w3.heap.size < _ by (try simp) <;> (try omega))]
    exact q6_1_1
  have q7_1_2 : w7.cell? ⟨w3.heap.size, 2, none⟩ = some (.int .i64 M.term) := by
    rw [hb7.cell (p := ⟨w3.heap.size, 2, none⟩) (show w3.heap.size < _ by (try simp) <;> (try omega))]
    exact q6_1_2
  have q7_1_3 : w7.cell? ⟨w3.heap.size, 3, none⟩ = some (.int .i64 M.vote) := by
    rw [hb7.cell (p := ⟨w3.heap.size, 3, none⟩) (show w3.heap.size < _ by (try simp) <;> (try omega))]
    exact q6_1_3
  have q7_1_4 : w7.cell? ⟨w3.heap.size, 4, none⟩ = some (.int .i64 M.role) := by
    rw [hb7.cell (p := ⟨w3.heap.size, 4, none⟩) (show w3.heap.size < _ by (try simp) <;> (try omega))]
    exact q6_1_4
  have q7_1_5 : w7.cell? ⟨w3.heap.size, 5, none⟩ = some (.bool M.up) := by
    rw [hb7.cell (p := ⟨w3.heap.size, 5, none⟩) (show w3.heap.size < _ by (try simp) <;> (try omega))]
    exact q6_1_5
  have q7_1_6 : w7.cell? ⟨w3.heap.size, 6, none⟩ = some (.slice al3 M.log.length cl3) := by
    rw [hb7.cell (p := ⟨w3.heap.size, 6, none⟩) (show w3.heap.size < _ by (try simp) <;> (try omega))]
    exact q6_1_6
  have q7_1_7 : w7.cell? ⟨w3.heap.size, 7, none⟩ = some (.int .i64 M.commit) := by
    rw [hb7.cell (p := ⟨w3.heap.size, 7, none⟩) (show w3.heap.size < _ by (try simp) <;> (try omega))]
    exact q6_1_7
  have q7_1_8 : w7.cell? ⟨w3.heap.size, 8, none⟩ = some (.int .i64 M.elapsed) := by
    rw [hb7.cell (p := ⟨w3.heap.size, 8, none⟩) (show w3.heap.size < _ by (try simp) <;> (try omega))]
    exact q6_1_8
  have q7_1_9 : w7.cell? ⟨w3.heap.size, 9, none⟩ = some (.int .i64 M.wait) := by
    rw [hb7.cell (p := ⟨w3.heap.size, 9, none⟩) (show w3.heap.size < _ by (try simp) <;> (try omega))]
    exact q6_1_9
  have q7_1_10 : w7.cell? ⟨w3.heap.size, 10, none⟩ = some (.slice av3 M.votes.length cv3) := by
    rw [hb7.cell (p := ⟨w3.heap.size, 10, none⟩) (show w3.heap.size < _ by (try simp) <;> (try omega))]
    exact q6_1_10
  have q7_1_11 : w7.cell? ⟨w3.heap.size, 11, none⟩ = some (.slice an3 M.next.length cn3) := by
    rw [hb7.cell (p := ⟨w3.heap.size, 11, none⟩) (show w3.heap.size < _ by (try simp) <;> (try omega))]
    exact q6_1_11
  have q7_1_12 : w7.cell? ⟨w3.heap.size, 12, none⟩ = some (.slice am3 M.mtch.length cm3) := by
    rw [hb7.cell (p := ⟨w3.heap.size, 12, none⟩) (show w3.heap.size < _ by (try simp) <;> (try omega))]
    exact q6_1_12
  have hl7_1 : w3.heap.size < w7.heap.size := by omega
  clear q6_1_0 q6_1_1 q6_1_2 q6_1_3 q6_1_4 q6_1_5 q6_1_6 q6_1_7 q6_1_8 q6_1_9 q6_1_10 q6_1_11 q6_1_12
  have q7_2_0 : w7.cell? ⟨w4.heap.size, 0, none⟩ = some (.int .i64 N.id) := by
    rw [hb7.cell (p := ⟨w4.heap.size, 0, none⟩) (show w4.heap.size < _ by (try simp) <;> (try omega))]
    exact q6_2_0
  have q7_2_1 : w7.cell? ⟨w4.heap.size, 1, none⟩ = some (.int .i64 N.nodes) := by
    rw [hb7.cell (p := ⟨w4.heap.size, 1, none⟩) (show w4.heap.size < _ by (try simp) <;> (try omega))]
    exact q6_2_1
  have q7_2_2 : w7.cell? ⟨w4.heap.size, 2, none⟩ = some (.int .i64 N.term) := by
    rw [hb7.cell (p := ⟨w4.heap.size, 2, none⟩) (show w4.heap.size < _ by (try simp) <;> (try omega))]
    exact q6_2_2
  have q7_2_3 : w7.cell? ⟨w4.heap.size, 3, none⟩ = some (.int .i64 N.vote) := by
    rw [hb7.cell (p := ⟨w4.heap.size, 3, none⟩) (show w4.heap.size < _ by (try simp) <;> (try omega))]
    exact q6_2_3
  have q7_2_4 : w7.cell? ⟨w4.heap.size, 4, none⟩ = some (.int .i64 N.role) := by
    rw [hb7.cell (p := ⟨w4.heap.size, 4, none⟩) (show w4.heap.size < _ by (try simp) <;> (try omega))]
    exact q6_2_4
  have q7_2_5 : w7.cell? ⟨w4.heap.size, 5, none⟩ = some (.bool N.up) := by
    rw [hb7.cell (p := ⟨w4.heap.size, 5, none⟩) (show w4.heap.size < _ by (try simp) <;> (try omega))]
    exact q6_2_5
  have q7_2_6 : w7.cell? ⟨w4.heap.size, 6, none⟩ = some (.slice al4 N.log.length cl4) := by
    rw [hb7.cell (p := ⟨w4.heap.size, 6, none⟩) (show w4.heap.size < _ by (try simp) <;> (try omega))]
    exact q6_2_6
  have q7_2_7 : w7.cell? ⟨w4.heap.size, 7, none⟩ = some (.int .i64 N.commit) := by
    rw [hb7.cell (p := ⟨w4.heap.size, 7, none⟩) (show w4.heap.size < _ by (try simp) <;> (try omega))]
    exact q6_2_7
  have q7_2_8 : w7.cell? ⟨w4.heap.size, 8, none⟩ = some (.int .i64 N.elapsed) := by
    rw [hb7.cell (p := ⟨w4.heap.size, 8, none⟩) (show w4.heap.size < _ by (try simp) <;> (try omega))]
    exact q6_2_8
  have q7_2_9 : w7.cell? ⟨w4.heap.size, 9, none⟩ = some (.int .i64 N.wait) := by
    rw [hb7.cell (p := ⟨w4.heap.size, 9, none⟩) (show w4.heap.size < _ by (try simp) <;> (try omega))]
    exact q6_2_9
  have q7_2_10 : w7.cell? ⟨w4.heap.size, 10, none⟩ = some (.slice av4 N.votes.length cv4) := by
    rw [hb7.cell (p := ⟨w4.heap.size, 10, none⟩) (show w4.heap.size < _ by (try simp) <;> (try omega))]
    exact q6_2_10
  have q7_2_11 : w7.cell? ⟨w4.heap.size, 11, none⟩ = some (.slice an4 N.next.length cn4) := by
    rw [hb7.cell (p := ⟨w4.heap.size, 11, none⟩) (show w4.heap.size < _ by (try simp) <;> (try omega))]
    exact q6_2_11
  have q7_2_12 : w7.cell? ⟨w4.heap.size, 12, none⟩ = some (.slice am4 N.mtch.length cm4) := by
    rw [hb7.cell (p := ⟨w4.heap.size, 12, none⟩) (show w4.heap.size < _ by (try simp) <;> (try omega))]
    exact q6_2_12
  have hl7_2 : w4.heap.size < w7.heap.size := by omega
  clear q6_2_0 q6_2_1 q6_2_2 q6_2_3 q6_2_4 q6_2_5 q6_2_6 q6_2_7 q6_2_8 q6_2_9 q6_2_10 q6_2_11 q6_2_12
  have q7_3_0 : w7.cell? ⟨w5.heap.size, 0, none⟩ = some (.int .i64 M.id) := by
    rw [hb7.cell (p := ⟨w5.heap.size, 0, none⟩) (show w5.heap.size < _ by (try simp) <;> (try omega))]
    exact q6_3_0
  have q7_3_1 : w7.cell? ⟨w5.heap.size, 1, none⟩ = some (.int .i64 M.nodes) := by
    rw [hb7.cell (p := ⟨w5.heap.size, 1, none⟩) (show w5.heap.size < _ by (try simp) <;> (try omega))]
    exact q6_3_1
  have q7_3_2 : w7.cell? ⟨w5.heap.size, 2, none⟩ = some (.int .i64 M.term) := by
    rw [hb7.cell (p := ⟨w5.heap.size, 2, none⟩) (show w5.heap.size < _ by (try simp) <;> (try omega))]
    exact q6_3_2
  have q7_3_3 : w7.cell? ⟨w5.heap.size, 3, none⟩ = some (.int .i64 M.vote) := by
    rw [hb7.cell (p := ⟨w5.heap.size, 3, none⟩) (show w5.heap.size < _ by (try simp) <;> (try omega))]
    exact q6_3_3
  have q7_3_4 : w7.cell? ⟨w5.heap.size, 4, none⟩ = some (.int .i64 M.role) := by
    rw [hb7.cell (p := ⟨w5.heap.size, 4, none⟩) (show w5.heap.size < _ by (try simp) <;> (try omega))]
    exact q6_3_4
  have q7_3_5 : w7.cell? ⟨w5.heap.size, 5, none⟩ = some (.bool M.up) := by
    rw [hb7.cell (p := ⟨w5.heap.size, 5, none⟩) (show w5.heap.size < _ by (try simp) <;> (try omega))]
    exact q6_3_5
  have q7_3_6 : w7.cell? ⟨w5.heap.size, 6, none⟩ = some (.slice al5 M.log.length cl5) := by
    rw [hb7.cell (p := ⟨w5.heap.size, 6, none⟩) (show w5.heap.size < _ by (try simp) <;> (try omega))]
    exact q6_3_6
  have q7_3_7 : w7.cell? ⟨w5.heap.size, 7, none⟩ = some (.int .i64 M.commit) := by
    rw [hb7.cell (p := ⟨w5.heap.size, 7, none⟩) (show w5.heap.size < _ by (try simp) <;> (try omega))]
    exact q6_3_7
  have q7_3_8 : w7.cell? ⟨w5.heap.size, 8, none⟩ = some (.int .i64 M.elapsed) := by
    rw [hb7.cell (p := ⟨w5.heap.size, 8, none⟩) (show w5.heap.size < _ by (try simp) <;> (try omega))]
    exact q6_3_8
  have q7_3_9 : w7.cell? ⟨w5.heap.size, 9, none⟩ = some (.int .i64 M.wait) := by
    rw [hb7.cell (p := ⟨w5.heap.size, 9, none⟩) (show w5.heap.size < _ by (try simp) <;> (try omega))]
    exact q6_3_9
  have q7_3_10 : w7.cell? ⟨w5.heap.size, 10, none⟩ = some (.slice av5 M.votes.length cv5) := by
    rw [hb7.cell (p := ⟨w5.heap.size, 10, none⟩) (show w5.heap.size < _ by (try simp) <;> (try omega))]
    exact q6_3_10
  have q7_3_11 : w7.cell? ⟨w5.heap.size, 11, none⟩ = some (.slice an5 M.next.length cn5) := by
    rw [hb7.cell (p := ⟨w5.heap.size, 11, none⟩) (show w5.heap.size < _ by (try simp) <;> (try omega))]
    exact q6_3_11
  have q7_3_12 : w7.cell? ⟨w5.heap.size, 12, none⟩ = some (.slice am5 M.mtch.length cm5) := by
    rw [hb7.cell (p := ⟨w5.heap.size, 12, none⟩) (show w5.heap.size < _ by (try simp) <;> (try omega))]
    exact q6_3_12
  have hl7_3 : w5.heap.size < w7.heap.size := by omega
  clear q6_3_0 q6_3_1 q6_3_2 q6_3_3 q6_3_4 q6_3_5 q6_3_6 q6_3_7 q6_3_8 q6_3_9 q6_3_10 q6_3_11 q6_3_12
  have HB7 : Hid (Below w.heap.size w w7) := HB6.out.trans (hb7.mono (by (try simp) <;> (try omega)))
  clear hb7
  go_wp2_with fail
  go_region_held3 (fun w' => w'.cell? ⟨w.heap.size, 0, none⟩ = some (.int .i64 N.id) ∧ w'.cell? ⟨w.heap.size, 1, none⟩ = some (.int .i64 N.nodes) ∧ w'.cell? ⟨w.heap.size, 2, none⟩ = some (.int .i64 N.term) ∧ w'.cell? ⟨w.heap.size, 3, none⟩ = some (.int .i64 N.vote) ∧ w'.cell? ⟨w.heap.size, 4, none⟩ = some (.int .i64 N.role) ∧ w'.cell? ⟨w.heap.size, 5, none⟩ = some (.bool N.up) ∧ w'.cell? ⟨w.heap.size, 6, none⟩ = some (.slice al N.log.length cl) ∧ w'.cell? ⟨w.heap.size, 7, none⟩ = some (.int .i64 N.commit) ∧ w'.cell? ⟨w.heap.size, 8, none⟩ = some (.int .i64 N.elapsed) ∧ w'.cell? ⟨w.heap.size, 9, none⟩ = some (.int .i64 N.wait) ∧ w'.cell? ⟨w.heap.size, 10, none⟩ = some (.slice av N.votes.length cv) ∧ w'.cell? ⟨w.heap.size, 11, none⟩ = some (.slice an N.next.length cn) ∧ w'.cell? ⟨w.heap.size, 12, none⟩ = some (.slice am N.mtch.length cm) ∧ w'.cell? ⟨w3.heap.size, 0, none⟩ = some (.int .i64 M.id) ∧ w'.cell? ⟨w3.heap.size, 1, none⟩ = some (.int .i64 M.nodes) ∧ w'.cell? ⟨w3.heap.size, 2, none⟩ = some (.int .i64 M.term) ∧ w'.cell? ⟨w3.heap.size, 3, none⟩ = some (.int .i64 M.vote) ∧ w'.cell? ⟨w3.heap.size, 4, none⟩ = some (.int .i64 M.role) ∧ w'.cell? ⟨w3.heap.size, 5, none⟩ = some (.bool M.up) ∧ w'.cell? ⟨w3.heap.size, 6, none⟩ = some (.slice al3 M.log.length cl3) ∧ w'.cell? ⟨w3.heap.size, 7, none⟩ = some (.int .i64 M.commit) ∧ w'.cell? ⟨w3.heap.size, 8, none⟩ = some (.int .i64 M.elapsed) ∧ w'.cell? ⟨w3.heap.size, 9, none⟩ = some (.int .i64 M.wait) ∧ w'.cell? ⟨w3.heap.size, 10, none⟩ = some (.slice av3 M.votes.length cv3) ∧ w'.cell? ⟨w3.heap.size, 11, none⟩ = some (.slice an3 M.next.length cn3) ∧ w'.cell? ⟨w3.heap.size, 12, none⟩ = some (.slice am3 M.mtch.length cm3) ∧ w'.cell? ⟨w4.heap.size, 0, none⟩ = some (.int .i64 N.id) ∧ w'.cell? ⟨w4.heap.size, 1, none⟩ = some (.int .i64 N.nodes) ∧ w'.cell? ⟨w4.heap.size, 2, none⟩ = some (.int .i64 N.term) ∧ w'.cell? ⟨w4.heap.size, 3, none⟩ = some (.int .i64 N.vote) ∧ w'.cell? ⟨w4.heap.size, 4, none⟩ = some (.int .i64 N.role) ∧ w'.cell? ⟨w4.heap.size, 5, none⟩ = some (.bool N.up) ∧ w'.cell? ⟨w4.heap.size, 6, none⟩ = some (.slice al4 N.log.length cl4) ∧ w'.cell? ⟨w4.heap.size, 7, none⟩ = some (.int .i64 N.commit) ∧ w'.cell? ⟨w4.heap.size, 8, none⟩ = some (.int .i64 N.elapsed) ∧ w'.cell? ⟨w4.heap.size, 9, none⟩ = some (.int .i64 N.wait) ∧ w'.cell? ⟨w4.heap.size, 10, none⟩ = some (.slice av4 N.votes.length cv4) ∧ w'.cell? ⟨w4.heap.size, 11, none⟩ = some (.slice an4 N.next.length cn4) ∧ w'.cell? ⟨w4.heap.size, 12, none⟩ = some (.slice am4 N.mtch.length cm4) ∧ w'.cell? ⟨w5.heap.size, 0, none⟩ = some (.int .i64 M.id) ∧ w'.cell? ⟨w5.heap.size, 1, none⟩ = some (.int .i64 M.nodes) ∧ w'.cell? ⟨w5.heap.size, 2, none⟩ = some (.int .i64 M.term) ∧ w'.cell? ⟨w5.heap.size, 3, none⟩ = some (.int .i64 M.vote) ∧ w'.cell? ⟨w5.heap.size, 4, none⟩ = some (.int .i64 M.role) ∧ w'.cell? ⟨w5.heap.size, 5, none⟩ = some (.bool M.up) ∧ w'.cell? ⟨w5.heap.size, 6, none⟩ = some (.slice al5 M.log.length cl5) ∧ w'.cell? ⟨w5.heap.size, 7, none⟩ = some (.int .i64 M.commit) ∧ w'.cell? ⟨w5.heap.size, 8, none⟩ = some (.int .i64 M.elapsed) ∧ w'.cell? ⟨w5.heap.size, 9, none⟩ = some (.int .i64 M.wait) ∧ w'.cell? ⟨w5.heap.size, 10, none⟩ = some (.slice av5 M.votes.length cv5) ∧ w'.cell? ⟨w5.heap.size, 11, none⟩ = some (.slice an5 M.next.length cn5) ∧ w'.cell? ⟨w5.heap.size, 12, none⟩ = some (.slice am5 M.mtch.length cm5))
    (first | go_keep | (repeat' apply And.intro) <;> assumption)
    (first
    | (have tok9 := hb8
       clear tok9
       go_at_call 8
       refine (eqNode_same al4 cl4 av4 cv4 an4 cn4 am4 cm4 al8 cl8 av8 cv8 an8 cn8 am8 cm8 N _ ((HX47.out.drew.below hb8).sl) hf8.sl HZ.out).mono ?_
       rintro e w9 ⟨rfl, hb9⟩
       have hz9 := hb9.size
       try simp at hz9
       have q9_0_0 : w9.cell? ⟨w.heap.size, 0, none⟩ = some (.int .i64 N.id) := by
         rw [hb9.cell (p := ⟨w.heap.size, 0, none⟩) (show w.heap.size < _ by (try simp) <;> (try omega))]
         first | assumption | (simp [go_sem, *])
       have q9_0_1 : w9.cell? ⟨w.heap.size, 1, none⟩ = some (.int .i64 N.nodes) := by
         rw [hb9.cell (p := ⟨w.heap.size, 1, none⟩) (show w.heap.size < _ by (try simp) <;> (try omega))]
         first | assumption | (simp [go_sem, *])
       have q9_0_2 : w9.cell? ⟨w.heap.size, 2, none⟩ = some (.int .i64 N.term) := by
         rw [hb9.cell (p := ⟨w.heap.size, 2, none⟩) (show w.heap.size < _ by (try simp) <;> (try omega))]
         first | assumption | (simp [go_sem, *])
       have q9_0_3 : w9.cell? ⟨w.heap.size, 3, none⟩ = some (.int .i64 N.vote) := by
         rw [hb9.cell (p := ⟨w.heap.size, 3, none⟩) (show w.heap.size < _ by (try simp) <;> (try omega))]
         first | assumption | (simp [go_sem, *])
       have q9_0_4 : w9.cell? ⟨w.heap.size, 4, none⟩ = some (.int .i64 N.role) := by
         rw [hb9.cell (p := ⟨w.heap.size, 4, none⟩) (show w.heap.size < _ by (try simp) <;> (try omega))]
         first | assumption | (simp [go_sem, *])
       have q9_0_5 : w9.cell? ⟨w.heap.size, 5, none⟩ = some (.bool N.up) := by
         rw [hb9.cell (p := ⟨w.heap.size, 5, none⟩) (show w.heap.size < _ by (try simp) <;> (try omega))]
         first | assumption | (simp [go_sem, *])
       have q9_0_6 : w9.cell? ⟨w.heap.size, 6, none⟩ = some (.slice al N.log.length cl) := by
         rw [hb9.cell (p := ⟨w.heap.size, 6, none⟩) (show w.heap.size < _ by (try simp) <;> (try omega))]
         first | assumption | (simp [go_sem, *])
       have q9_0_7 : w9.cell? ⟨w.heap.size, 7, none⟩ = some (.int .i64 N.commit) := by
         rw [hb9.cell (p := ⟨w.heap.size, 7, none⟩) (show w.heap.size < _ by (try simp) <;> (try omega))]
         first | assumption | (simp [go_sem, *])
       have q9_0_8 : w9.cell? ⟨w.heap.size, 8, none⟩ = some (.int .i64 N.elapsed) := by
         rw [hb9.cell (p := ⟨w.heap.size, 8, none⟩) (show w.heap.size < _ by (try simp) <;> (try omega))]
         first | assumption | (simp [go_sem, *])
       have q9_0_9 : w9.cell? ⟨w.heap.size, 9, none⟩ = some (.int .i64 N.wait) := by
         rw [hb9.cell (p := ⟨w.heap.size, 9, none⟩) (show w.heap.size < _ by (try simp) <;> (try omega))]
         first | assumption | (simp [go_sem, *])
       have q9_0_10 : w9.cell? ⟨w.heap.size, 10, none⟩ = some (.slice av N.votes.length cv) := by
         rw [hb9.cell (p := ⟨w.heap.size, 10, none⟩) (show w.heap.size < _ by (try simp) <;> (try omega))]
         first | assumption | (simp [go_sem, *])
       have q9_0_11 : w9.cell? ⟨w.heap.size, 11, none⟩ = some (.slice an N.next.length cn) := by
         rw [hb9.cell (p := ⟨w.heap.size, 11, none⟩) (show w.heap.size < _ by (try simp) <;> (try omega))]
         first | assumption | (simp [go_sem, *])
       have q9_0_12 : w9.cell? ⟨w.heap.size, 12, none⟩ = some (.slice am N.mtch.length cm) := by
         rw [hb9.cell (p := ⟨w.heap.size, 12, none⟩) (show w.heap.size < _ by (try simp) <;> (try omega))]
         first | assumption | (simp [go_sem, *])
       have hl9_0 : w.heap.size < w9.heap.size := by omega
       have q9_1_0 : w9.cell? ⟨w3.heap.size, 0, none⟩ = some (.int .i64 M.id) := by
         rw [hb9.cell (p := ⟨w3.heap.size, 0, none⟩) (show w3.heap.size < _ by (try simp) <;> (try omega))]
         first | assumption | (simp [go_sem, *])
       have q9_1_1 : w9.cell? ⟨w3.heap.size, 1, none⟩ = some (.int .i64 M.nodes) := by
         rw [hb9.cell (p := ⟨w3.heap.size, 1, none⟩) (show w3.heap.size < _ by (try simp) <;> (try omega))]
         first | assumption | (simp [go_sem, *])
       have q9_1_2 : w9.cell? ⟨w3.heap.size, 2, none⟩ = some (.int .i64 M.term) := by
         rw [hb9.cell (p := ⟨w3.heap.size, 2, none⟩) (show w3.heap.size < _ by (try simp) <;> (try omega))]
         first | assumption | (simp [go_sem, *])
       have q9_1_3 : w9.cell? ⟨w3.heap.size, 3, none⟩ = some (.int .i64 M.vote) := by
         rw [hb9.cell (p := ⟨w3.heap.size, 3, none⟩) (show w3.heap.size < _ by (try simp) <;> (try omega))]
         first | assumption | (simp [go_sem, *])
       have q9_1_4 : w9.cell? ⟨w3.heap.size, 4, none⟩ = some (.int .i64 M.role) := by
         rw [hb9.cell (p := ⟨w3.heap.size, 4, none⟩) (show w3.heap.size < _ by (try simp) <;> (try omega))]
         first | assumption | (simp [go_sem, *])
       have q9_1_5 : w9.cell? ⟨w3.heap.size, 5, none⟩ = some (.bool M.up) := by
         rw [hb9.cell (p := ⟨w3.heap.size, 5, none⟩) (show w3.heap.size < _ by (try simp) <;> (try omega))]
         first | assumption | (simp [go_sem, *])
       have q9_1_6 : w9.cell? ⟨w3.heap.size, 6, none⟩ = some (.slice al3 M.log.length cl3) := by
         rw [hb9.cell (p := ⟨w3.heap.size, 6, none⟩) (show w3.heap.size < _ by (try simp) <;> (try omega))]
         first | assumption | (simp [go_sem, *])
       have q9_1_7 : w9.cell? ⟨w3.heap.size, 7, none⟩ = some (.int .i64 M.commit) := by
         rw [hb9.cell (p := ⟨w3.heap.size, 7, none⟩) (show w3.heap.size < _ by (try simp) <;> (try omega))]
         first | assumption | (simp [go_sem, *])
       have q9_1_8 : w9.cell? ⟨w3.heap.size, 8, none⟩ = some (.int .i64 M.elapsed) := by
         rw [hb9.cell (p := ⟨w3.heap.size, 8, none⟩) (show w3.heap.size < _ by (try simp) <;> (try omega))]
         first | assumption | (simp [go_sem, *])
       have q9_1_9 : w9.cell? ⟨w3.heap.size, 9, none⟩ = some (.int .i64 M.wait) := by
         rw [hb9.cell (p := ⟨w3.heap.size, 9, none⟩) (show w3.heap.size < _ by (try simp) <;> (try omega))]
         first | assumption | (simp [go_sem, *])
       have q9_1_10 : w9.cell? ⟨w3.heap.size, 10, none⟩ = some (.slice av3 M.votes.length cv3) := by
         rw [hb9.cell (p := ⟨w3.heap.size, 10, none⟩) (show w3.heap.size < _ by (try simp) <;> (try omega))]
         first | assumption | (simp [go_sem, *])
       have q9_1_11 : w9.cell? ⟨w3.heap.size, 11, none⟩ = some (.slice an3 M.next.length cn3) := by
         rw [hb9.cell (p := ⟨w3.heap.size, 11, none⟩) (show w3.heap.size < _ by (try simp) <;> (try omega))]
         first | assumption | (simp [go_sem, *])
       have q9_1_12 : w9.cell? ⟨w3.heap.size, 12, none⟩ = some (.slice am3 M.mtch.length cm3) := by
         rw [hb9.cell (p := ⟨w3.heap.size, 12, none⟩) (show w3.heap.size < _ by (try simp) <;> (try omega))]
         first | assumption | (simp [go_sem, *])
       have hl9_1 : w3.heap.size < w9.heap.size := by omega
       have q9_2_0 : w9.cell? ⟨w4.heap.size, 0, none⟩ = some (.int .i64 N.id) := by
         rw [hb9.cell (p := ⟨w4.heap.size, 0, none⟩) (show w4.heap.size < _ by (try simp) <;> (try omega))]
         first | assumption | (simp [go_sem, *])
       have q9_2_1 : w9.cell? ⟨w4.heap.size, 1, none⟩ = some (.int .i64 N.nodes) := by
         rw [hb9.cell (p := ⟨w4.heap.size, 1, none⟩) (show w4.heap.size < _ by (try simp) <;> (try omega))]
         first | assumption | (simp [go_sem, *])
       have q9_2_2 : w9.cell? ⟨w4.heap.size, 2, none⟩ = some (.int .i64 N.term) := by
         rw [hb9.cell (p := ⟨w4.heap.size, 2, none⟩) (show w4.heap.size < _ by (try simp) <;> (try omega))]
         first | assumption | (simp [go_sem, *])
       have q9_2_3 : w9.cell? ⟨w4.heap.size, 3, none⟩ = some (.int .i64 N.vote) := by
         rw [hb9.cell (p := ⟨w4.heap.size, 3, none⟩) (show w4.heap.size < _ by (try simp) <;> (try omega))]
         first | assumption | (simp [go_sem, *])
       have q9_2_4 : w9.cell? ⟨w4.heap.size, 4, none⟩ = some (.int .i64 N.role) := by
         rw [hb9.cell (p := ⟨w4.heap.size, 4, none⟩) (show w4.heap.size < _ by (try simp) <;> (try omega))]
         first | assumption | (simp [go_sem, *])
       have q9_2_5 : w9.cell? ⟨w4.heap.size, 5, none⟩ = some (.bool N.up) := by
         rw [hb9.cell (p := ⟨w4.heap.size, 5, none⟩) (show w4.heap.size < _ by (try simp) <;> (try omega))]
         first | assumption | (simp [go_sem, *])
       have q9_2_6 : w9.cell? ⟨w4.heap.size, 6, none⟩ = some (.slice al4 N.log.length cl4) := by
         rw [hb9.cell (p := ⟨w4.heap.size, 6, none⟩) (show w4.heap.size < _ by (try simp) <;> (try omega))]
         first | assumption | (simp [go_sem, *])
       have q9_2_7 : w9.cell? ⟨w4.heap.size, 7, none⟩ = some (.int .i64 N.commit) := by
         rw [hb9.cell (p := ⟨w4.heap.size, 7, none⟩) (show w4.heap.size < _ by (try simp) <;> (try omega))]
         first | assumption | (simp [go_sem, *])
       have q9_2_8 : w9.cell? ⟨w4.heap.size, 8, none⟩ = some (.int .i64 N.elapsed) := by
         rw [hb9.cell (p := ⟨w4.heap.size, 8, none⟩) (show w4.heap.size < _ by (try simp) <;> (try omega))]
         first | assumption | (simp [go_sem, *])
       have q9_2_9 : w9.cell? ⟨w4.heap.size, 9, none⟩ = some (.int .i64 N.wait) := by
         rw [hb9.cell (p := ⟨w4.heap.size, 9, none⟩) (show w4.heap.size < _ by (try simp) <;> (try omega))]
         first | assumption | (simp [go_sem, *])
       have q9_2_10 : w9.cell? ⟨w4.heap.size, 10, none⟩ = some (.slice av4 N.votes.length cv4) := by
         rw [hb9.cell (p := ⟨w4.heap.size, 10, none⟩) (show w4.heap.size < _ by (try simp) <;> (try omega))]
         first | assumption | (simp [go_sem, *])
       have q9_2_11 : w9.cell? ⟨w4.heap.size, 11, none⟩ = some (.slice an4 N.next.length cn4) := by
         rw [hb9.cell (p := ⟨w4.heap.size, 11, none⟩) (show w4.heap.size < _ by (try simp) <;> (try omega))]
         first | assumption | (simp [go_sem, *])
       have q9_2_12 : w9.cell? ⟨w4.heap.size, 12, none⟩ = some (.slice am4 N.mtch.length cm4) := by
         rw [hb9.cell (p := ⟨w4.heap.size, 12, none⟩) (show w4.heap.size < _ by (try simp) <;> (try omega))]
         first | assumption | (simp [go_sem, *])
       have hl9_2 : w4.heap.size < w9.heap.size := by omega
       have q9_3_0 : w9.cell? ⟨w5.heap.size, 0, none⟩ = some (.int .i64 M.id) := by
         rw [hb9.cell (p := ⟨w5.heap.size, 0, none⟩) (show w5.heap.size < _ by (try simp) <;> (try omega))]
         first | assumption | (simp [go_sem, *])
       have q9_3_1 : w9.cell? ⟨w5.heap.size, 1, none⟩ = some (.int .i64 M.nodes) := by
         rw [hb9.cell (p := ⟨w5.heap.size, 1, none⟩) (show w5.heap.size < _ by (try simp) <;> (try omega))]
         first | assumption | (simp [go_sem, *])
       have q9_3_2 : w9.cell? ⟨w5.heap.size, 2, none⟩ = some (.int .i64 M.term) := by
         rw [hb9.cell (p := ⟨w5.heap.size, 2, none⟩) (show w5.heap.size < _ by (try simp) <;> (try omega))]
         first | assumption | (simp [go_sem, *])
       have q9_3_3 : w9.cell? ⟨w5.heap.size, 3, none⟩ = some (.int .i64 M.vote) := by
         rw [hb9.cell (p := ⟨w5.heap.size, 3, none⟩) (show w5.heap.size < _ by (try simp) <;> (try omega))]
         first | assumption | (simp [go_sem, *])
       have q9_3_4 : w9.cell? ⟨w5.heap.size, 4, none⟩ = some (.int .i64 M.role) := by
         rw [hb9.cell (p := ⟨w5.heap.size, 4, none⟩) (show w5.heap.size < _ by (try simp) <;> (try omega))]
         first | assumption | (simp [go_sem, *])
       have q9_3_5 : w9.cell? ⟨w5.heap.size, 5, none⟩ = some (.bool M.up) := by
         rw [hb9.cell (p := ⟨w5.heap.size, 5, none⟩) (show w5.heap.size < _ by (try simp) <;> (try omega))]
         first | assumption | (simp [go_sem, *])
       have q9_3_6 : w9.cell? ⟨w5.heap.size, 6, none⟩ = some (.slice al5 M.log.length cl5) := by
         rw [hb9.cell (p := ⟨w5.heap.size, 6, none⟩) (show w5.heap.size < _ by (try simp) <;> (try omega))]
         first | assumption | (simp [go_sem, *])
       have q9_3_7 : w9.cell? ⟨w5.heap.size, 7, none⟩ = some (.int .i64 M.commit) := by
         rw [hb9.cell (p := ⟨w5.heap.size, 7, none⟩) (show w5.heap.size < _ by (try simp) <;> (try omega))]
         first | assumption | (simp [go_sem, *])
       have q9_3_8 : w9.cell? ⟨w5.heap.size, 8, none⟩ = some (.int .i64 M.elapsed) := by
         rw [hb9.cell (p := ⟨w5.heap.size, 8, none⟩) (show w5.heap.size < _ by (try simp) <;> (try omega))]
         first | assumption | (simp [go_sem, *])
       have q9_3_9 : w9.cell? ⟨w5.heap.size, 9, none⟩ = some (.int .i64 M.wait) := by
         rw [hb9.cell (p := ⟨w5.heap.size, 9, none⟩) (show w5.heap.size < _ by (try simp) <;> (try omega))]
         first | assumption | (simp [go_sem, *])
       have q9_3_10 : w9.cell? ⟨w5.heap.size, 10, none⟩ = some (.slice av5 M.votes.length cv5) := by
         rw [hb9.cell (p := ⟨w5.heap.size, 10, none⟩) (show w5.heap.size < _ by (try simp) <;> (try omega))]
         first | assumption | (simp [go_sem, *])
       have q9_3_11 : w9.cell? ⟨w5.heap.size, 11, none⟩ = some (.slice an5 M.next.length cn5) := by
         rw [hb9.cell (p := ⟨w5.heap.size, 11, none⟩) (show w5.heap.size < _ by (try simp) <;> (try omega))]
         first | assumption | (simp [go_sem, *])
       have q9_3_12 : w9.cell? ⟨w5.heap.size, 12, none⟩ = some (.slice am5 M.mtch.length cm5) := by
         rw [hb9.cell (p := ⟨w5.heap.size, 12, none⟩) (show w5.heap.size < _ by (try simp) <;> (try omega))]
         first | assumption | (simp [go_sem, *])
       have hl9_3 : w5.heap.size < w9.heap.size := by omega)
    | (go_at_call 6
       refine (toNode_c al cl av cv an cn am cm N _ (hN.keep (HB7.out.drew)) HZ.out).mono ?_
       rintro e w8 ⟨al8, cl8, av8, cv8, an8, cn8, am8, cm8, rfl, hf8, hb8⟩
       have hz8 := hb8.size
       try simp at hz8
       have q8_0_0 : w8.cell? ⟨w.heap.size, 0, none⟩ = some (.int .i64 N.id) := by
         rw [hb8.cell (p := ⟨w.heap.size, 0, none⟩) (show w.heap.size < _ by (try simp) <;> (try omega))]
         first | assumption | (simp [go_sem, *])
       have q8_0_1 : w8.cell? ⟨w.heap.size, 1, none⟩ = some (.int .i64 N.nodes) := by
         rw [hb8.cell (p := ⟨w.heap.size, 1, none⟩) (show w.heap.size < _ by (try simp) <;> (try omega))]
         first | assumption | (simp [go_sem, *])
       have q8_0_2 : w8.cell? ⟨w.heap.size, 2, none⟩ = some (.int .i64 N.term) := by
         rw [hb8.cell (p := ⟨w.heap.size, 2, none⟩) (show w.heap.size < _ by (try simp) <;> (try omega))]
         first | assumption | (simp [go_sem, *])
       have q8_0_3 : w8.cell? ⟨w.heap.size, 3, none⟩ = some (.int .i64 N.vote) := by
         rw [hb8.cell (p := ⟨w.heap.size, 3, none⟩) (show w.heap.size < _ by (try simp) <;> (try omega))]
         first | assumption | (simp [go_sem, *])
       have q8_0_4 : w8.cell? ⟨w.heap.size, 4, none⟩ = some (.int .i64 N.role) := by
         rw [hb8.cell (p := ⟨w.heap.size, 4, none⟩) (show w.heap.size < _ by (try simp) <;> (try omega))]
         first | assumption | (simp [go_sem, *])
       have q8_0_5 : w8.cell? ⟨w.heap.size, 5, none⟩ = some (.bool N.up) := by
         rw [hb8.cell (p := ⟨w.heap.size, 5, none⟩) (show w.heap.size < _ by (try simp) <;> (try omega))]
         first | assumption | (simp [go_sem, *])
       have q8_0_6 : w8.cell? ⟨w.heap.size, 6, none⟩ = some (.slice al N.log.length cl) := by
         rw [hb8.cell (p := ⟨w.heap.size, 6, none⟩) (show w.heap.size < _ by (try simp) <;> (try omega))]
         first | assumption | (simp [go_sem, *])
       have q8_0_7 : w8.cell? ⟨w.heap.size, 7, none⟩ = some (.int .i64 N.commit) := by
         rw [hb8.cell (p := ⟨w.heap.size, 7, none⟩) (show w.heap.size < _ by (try simp) <;> (try omega))]
         first | assumption | (simp [go_sem, *])
       have q8_0_8 : w8.cell? ⟨w.heap.size, 8, none⟩ = some (.int .i64 N.elapsed) := by
         rw [hb8.cell (p := ⟨w.heap.size, 8, none⟩) (show w.heap.size < _ by (try simp) <;> (try omega))]
         first | assumption | (simp [go_sem, *])
       have q8_0_9 : w8.cell? ⟨w.heap.size, 9, none⟩ = some (.int .i64 N.wait) := by
         rw [hb8.cell (p := ⟨w.heap.size, 9, none⟩) (show w.heap.size < _ by (try simp) <;> (try omega))]
         first | assumption | (simp [go_sem, *])
       have q8_0_10 : w8.cell? ⟨w.heap.size, 10, none⟩ = some (.slice av N.votes.length cv) := by
         rw [hb8.cell (p := ⟨w.heap.size, 10, none⟩) (show w.heap.size < _ by (try simp) <;> (try omega))]
         first | assumption | (simp [go_sem, *])
       have q8_0_11 : w8.cell? ⟨w.heap.size, 11, none⟩ = some (.slice an N.next.length cn) := by
         rw [hb8.cell (p := ⟨w.heap.size, 11, none⟩) (show w.heap.size < _ by (try simp) <;> (try omega))]
         first | assumption | (simp [go_sem, *])
       have q8_0_12 : w8.cell? ⟨w.heap.size, 12, none⟩ = some (.slice am N.mtch.length cm) := by
         rw [hb8.cell (p := ⟨w.heap.size, 12, none⟩) (show w.heap.size < _ by (try simp) <;> (try omega))]
         first | assumption | (simp [go_sem, *])
       have hl8_0 : w.heap.size < w8.heap.size := by omega
       have q8_1_0 : w8.cell? ⟨w3.heap.size, 0, none⟩ = some (.int .i64 M.id) := by
         rw [hb8.cell (p := ⟨w3.heap.size, 0, none⟩) (show w3.heap.size < _ by (try simp) <;> (try omega))]
         first | assumption | (simp [go_sem, *])
       have q8_1_1 : w8.cell? ⟨w3.heap.size, 1, none⟩ = some (.int .i64 M.nodes) := by
         rw [hb8.cell (p := ⟨w3.heap.size, 1, none⟩) (show w3.heap.size < _ by (try simp) <;> (try omega))]
         first | assumption | (simp [go_sem, *])
       have q8_1_2 : w8.cell? ⟨w3.heap.size, 2, none⟩ = some (.int .i64 M.term) := by
         rw [hb8.cell (p := ⟨w3.heap.size, 2, none⟩) (show w3.heap.size < _ by (try simp) <;> (try omega))]
         first | assumption | (simp [go_sem, *])
       have q8_1_3 : w8.cell? ⟨w3.heap.size, 3, none⟩ = some (.int .i64 M.vote) := by
         rw [hb8.cell (p := ⟨w3.heap.size, 3, none⟩) (show w3.heap.size < _ by (try simp) <;> (try omega))]
         first | assumption | (simp [go_sem, *])
       have q8_1_4 : w8.cell? ⟨w3.heap.size, 4, none⟩ = some (.int .i64 M.role) := by
         rw [hb8.cell (p := ⟨w3.heap.size, 4, none⟩) (show w3.heap.size < _ by (try simp) <;> (try omega))]
         first | assumption | (simp [go_sem, *])
       have q8_1_5 : w8.cell? ⟨w3.heap.size, 5, none⟩ = some (.bool M.up) := by
         rw [hb8.cell (p := ⟨w3.heap.size, 5, none⟩) (show w3.heap.size < _ by (try simp) <;> (try omega))]
         first | assumption | (simp [go_sem, *])
       have q8_1_6 : w8.cell? ⟨w3.heap.size, 6, none⟩ = some (.slice al3 M.log.length cl3) := by
         rw [hb8.cell (p := ⟨w3.heap.size, 6, none⟩) (show w3.heap.size < _ by (try simp) <;> (try omega))]
         first | assumption | (simp [go_sem, *])
       have q8_1_7 : w8.cell? ⟨w3.heap.size, 7, none⟩ = some (.int .i64 M.commit) := by
         rw [hb8.cell (p := ⟨w3.heap.size, 7, none⟩) (show w3.heap.size < _ by (try simp) <;> (try omega))]
         first | assumption | (simp [go_sem, *])
       have q8_1_8 : w8.cell? ⟨w3.heap.size, 8, none⟩ = some (.int .i64 M.elapsed) := by
         rw [hb8.cell (p := ⟨w3.heap.size, 8, none⟩) (show w3.heap.size < _ by (try simp) <;> (try omega))]
         first | assumption | (simp [go_sem, *])
       have q8_1_9 : w8.cell? ⟨w3.heap.size, 9, none⟩ = some (.int .i64 M.wait) := by
         rw [hb8.cell (p := ⟨w3.heap.size, 9, none⟩) (show w3.heap.size < _ by (try simp) <;> (try omega))]
         first | assumption | (simp [go_sem, *])
       have q8_1_10 : w8.cell? ⟨w3.heap.size, 10, none⟩ = some (.slice av3 M.votes.length cv3) := by
         rw [hb8.cell (p := ⟨w3.heap.size, 10, none⟩) (show w3.heap.size < _ by (try simp) <;> (try omega))]
         first | assumption | (simp [go_sem, *])
       have q8_1_11 : w8.cell? ⟨w3.heap.size, 11, none⟩ = some (.slice an3 M.next.length cn3) := by
         rw [hb8.cell (p := ⟨w3.heap.size, 11, none⟩) (show w3.heap.size < _ by (try simp) <;> (try omega))]
         first | assumption | (simp [go_sem, *])
       have q8_1_12 : w8.cell? ⟨w3.heap.size, 12, none⟩ = some (.slice am3 M.mtch.length cm3) := by
         rw [hb8.cell (p := ⟨w3.heap.size, 12, none⟩) (show w3.heap.size < _ by (try simp) <;> (try omega))]
         first | assumption | (simp [go_sem, *])
       have hl8_1 : w3.heap.size < w8.heap.size := by omega
       have q8_2_0 : w8.cell? ⟨w4.heap.size, 0, none⟩ = some (.int .i64 N.id) := by
         rw [hb8.cell (p := ⟨w4.heap.size, 0, none⟩) (show w4.heap.size < _ by (try simp) <;> (try omega))]
         first | assumption | (simp [go_sem, *])
       have q8_2_1 : w8.cell? ⟨w4.heap.size, 1, none⟩ = some (.int .i64 N.nodes) := by
         rw [hb8.cell (p := ⟨w4.heap.size, 1, none⟩) (show w4.heap.size < _ by (try simp) <;> (try omega))]
         first | assumption | (simp [go_sem, *])
       have q8_2_2 : w8.cell? ⟨w4.heap.size, 2, none⟩ = some (.int .i64 N.term) := by
         rw [hb8.cell (p := ⟨w4.heap.size, 2, none⟩) (show w4.heap.size < _ by (try simp) <;> (try omega))]
         first | assumption | (simp [go_sem, *])
       have q8_2_3 : w8.cell? ⟨w4.heap.size, 3, none⟩ = some (.int .i64 N.vote) := by
         rw [hb8.cell (p := ⟨w4.heap.size, 3, none⟩) (show w4.heap.size < _ by (try simp) <;> (try omega))]
         first | assumption | (simp [go_sem, *])
       have q8_2_4 : w8.cell? ⟨w4.heap.size, 4, none⟩ = some (.int .i64 N.role) := by
         rw [hb8.cell (p := ⟨w4.heap.size, 4, none⟩) (show w4.heap.size < _ by (try simp) <;> (try omega))]
         first | assumption | (simp [go_sem, *])
       have q8_2_5 : w8.cell? ⟨w4.heap.size, 5, none⟩ = some (.bool N.up) := by
         rw [hb8.cell (p := ⟨w4.heap.size, 5, none⟩) (show w4.heap.size < _ by (try simp) <;> (try omega))]
         first | assumption | (simp [go_sem, *])
       have q8_2_6 : w8.cell? ⟨w4.heap.size, 6, none⟩ = some (.slice al4 N.log.length cl4) := by
         rw [hb8.cell (p := ⟨w4.heap.size, 6, none⟩) (show w4.heap.size < _ by (try simp) <;> (try omega))]
         first | assumption | (simp [go_sem, *])
       have q8_2_7 : w8.cell? ⟨w4.heap.size, 7, none⟩ = some (.int .i64 N.commit) := by
         rw [hb8.cell (p := ⟨w4.heap.size, 7, none⟩) (show w4.heap.size < _ by (try simp) <;> (try omega))]
         first | assumption | (simp [go_sem, *])
       have q8_2_8 : w8.cell? ⟨w4.heap.size, 8, none⟩ = some (.int .i64 N.elapsed) := by
         rw [hb8.cell (p := ⟨w4.heap.size, 8, none⟩) (show w4.heap.size < _ by (try simp) <;> (try omega))]
         first | assumption | (simp [go_sem, *])
       have q8_2_9 : w8.cell? ⟨w4.heap.size, 9, none⟩ = some (.int .i64 N.wait) := by
         rw [hb8.cell (p := ⟨w4.heap.size, 9, none⟩) (show w4.heap.size < _ by (try simp) <;> (try omega))]
         first | assumption | (simp [go_sem, *])
       have q8_2_10 : w8.cell? ⟨w4.heap.size, 10, none⟩ = some (.slice av4 N.votes.length cv4) := by
         rw [hb8.cell (p := ⟨w4.heap.size, 10, none⟩) (show w4.heap.size < _ by (try simp) <;> (try omega))]
         first | assumption | (simp [go_sem, *])
       have q8_2_11 : w8.cell? ⟨w4.heap.size, 11, none⟩ = some (.slice an4 N.next.length cn4) := by
         rw [hb8.cell (p := ⟨w4.heap.size, 11, none⟩) (show w4.heap.size < _ by (try simp) <;> (try omega))]
         first | assumption | (simp [go_sem, *])
       have q8_2_12 : w8.cell? ⟨w4.heap.size, 12, none⟩ = some (.slice am4 N.mtch.length cm4) := by
         rw [hb8.cell (p := ⟨w4.heap.size, 12, none⟩) (show w4.heap.size < _ by (try simp) <;> (try omega))]
         first | assumption | (simp [go_sem, *])
       have hl8_2 : w4.heap.size < w8.heap.size := by omega
       have q8_3_0 : w8.cell? ⟨w5.heap.size, 0, none⟩ = some (.int .i64 M.id) := by
         rw [hb8.cell (p := ⟨w5.heap.size, 0, none⟩) (show w5.heap.size < _ by (try simp) <;> (try omega))]
         first | assumption | (simp [go_sem, *])
       have q8_3_1 : w8.cell? ⟨w5.heap.size, 1, none⟩ = some (.int .i64 M.nodes) := by
         rw [hb8.cell (p := ⟨w5.heap.size, 1, none⟩) (show w5.heap.size < _ by (try simp) <;> (try omega))]
         first | assumption | (simp [go_sem, *])
       have q8_3_2 : w8.cell? ⟨w5.heap.size, 2, none⟩ = some (.int .i64 M.term) := by
         rw [hb8.cell (p := ⟨w5.heap.size, 2, none⟩) (show w5.heap.size < _ by (try simp) <;> (try omega))]
         first | assumption | (simp [go_sem, *])
       have q8_3_3 : w8.cell? ⟨w5.heap.size, 3, none⟩ = some (.int .i64 M.vote) := by
         rw [hb8.cell (p := ⟨w5.heap.size, 3, none⟩) (show w5.heap.size < _ by (try simp) <;> (try omega))]
         first | assumption | (simp [go_sem, *])
       have q8_3_4 : w8.cell? ⟨w5.heap.size, 4, none⟩ = some (.int .i64 M.role) := by
         rw [hb8.cell (p := ⟨w5.heap.size, 4, none⟩) (show w5.heap.size < _ by (try simp) <;> (try omega))]
         first | assumption | (simp [go_sem, *])
       have q8_3_5 : w8.cell? ⟨w5.heap.size, 5, none⟩ = some (.bool M.up) := by
         rw [hb8.cell (p := ⟨w5.heap.size, 5, none⟩) (show w5.heap.size < _ by (try simp) <;> (try omega))]
         first | assumption | (simp [go_sem, *])
       have q8_3_6 : w8.cell? ⟨w5.heap.size, 6, none⟩ = some (.slice al5 M.log.length cl5) := by
         rw [hb8.cell (p := ⟨w5.heap.size, 6, none⟩) (show w5.heap.size < _ by (try simp) <;> (try omega))]
         first | assumption | (simp [go_sem, *])
       have q8_3_7 : w8.cell? ⟨w5.heap.size, 7, none⟩ = some (.int .i64 M.commit) := by
         rw [hb8.cell (p := ⟨w5.heap.size, 7, none⟩) (show w5.heap.size < _ by (try simp) <;> (try omega))]
         first | assumption | (simp [go_sem, *])
       have q8_3_8 : w8.cell? ⟨w5.heap.size, 8, none⟩ = some (.int .i64 M.elapsed) := by
         rw [hb8.cell (p := ⟨w5.heap.size, 8, none⟩) (show w5.heap.size < _ by (try simp) <;> (try omega))]
         first | assumption | (simp [go_sem, *])
       have q8_3_9 : w8.cell? ⟨w5.heap.size, 9, none⟩ = some (.int .i64 M.wait) := by
         rw [hb8.cell (p := ⟨w5.heap.size, 9, none⟩) (show w5.heap.size < _ by (try simp) <;> (try omega))]
         first | assumption | (simp [go_sem, *])
       have q8_3_10 : w8.cell? ⟨w5.heap.size, 10, none⟩ = some (.slice av5 M.votes.length cv5) := by
         rw [hb8.cell (p := ⟨w5.heap.size, 10, none⟩) (show w5.heap.size < _ by (try simp) <;> (try omega))]
         first | assumption | (simp [go_sem, *])
       have q8_3_11 : w8.cell? ⟨w5.heap.size, 11, none⟩ = some (.slice an5 M.next.length cn5) := by
         rw [hb8.cell (p := ⟨w5.heap.size, 11, none⟩) (show w5.heap.size < _ by (try simp) <;> (try omega))]
         first | assumption | (simp [go_sem, *])
       have q8_3_12 : w8.cell? ⟨w5.heap.size, 12, none⟩ = some (.slice am5 M.mtch.length cm5) := by
         rw [hb8.cell (p := ⟨w5.heap.size, 12, none⟩) (show w5.heap.size < _ by (try simp) <;> (try omega))]
         first | assumption | (simp [go_sem, *])
       have hl8_3 : w5.heap.size < w8.heap.size := by omega))
  have hr9 : Below w7.heap.size w7 w9 := ((((Below.refl _ _).drew).trans (hb8.mono (by (try simp) <;> (try omega)))).trans (hb9.mono (by (try simp) <;> (try omega))))
  have hzr9 := hr9.size
  have HS9 := Lib.hid (HS7.out.below hr9)
  clear HS7
  have HX49 := Lib.hid (HX47.out.below hr9)
  clear HX47
  have HI59 := Lib.hid (HI57.out.below hr9)
  clear HI57
  have HY59 := Lib.hid (HY57.out.below hr9)
  clear HY57
  have HB9 : Hid (Below w.heap.size w w9) := HB7.out.trans (hr9.mono (by omega))
  clear q7_0_0 q7_0_1 q7_0_2 q7_0_3 q7_0_4 q7_0_5 q7_0_6 q7_0_7 q7_0_8 q7_0_9 q7_0_10 q7_0_11 q7_0_12 q8_0_0 q8_0_1 q8_0_2 q8_0_3 q8_0_4 q8_0_5 q8_0_6 q8_0_7 q8_0_8 q8_0_9 q8_0_10 q8_0_11 q8_0_12 q7_1_0 q7_1_1 q7_1_2 q7_1_3 q7_1_4 q7_1_5 q7_1_6 q7_1_7 q7_1_8 q7_1_9 q7_1_10 q7_1_11 q7_1_12 q8_1_0 q8_1_1 q8_1_2 q8_1_3 q8_1_4 q8_1_5 q8_1_6 q8_1_7 q8_1_8 q8_1_9 q8_1_10 q8_1_11 q8_1_12 q7_2_0 q7_2_1 q7_2_2 q7_2_3 q7_2_4 q7_2_5 q7_2_6 q7_2_7 q7_2_8 q7_2_9 q7_2_10 q7_2_11 q7_2_12 q8_2_0 q8_2_1 q8_2_2 q8_2_3 q8_2_4 q8_2_5 q8_2_6 q8_2_7 q8_2_8 q8_2_9 q8_2_10 q8_2_11 q8_2_12 q7_3_0 q7_3_1 q7_3_2 q7_3_3 q7_3_4 q7_3_5 q7_3_6 q7_3_7 q7_3_8 q7_3_9 q7_3_10 q7_3_11 q7_3_12 q8_3_0 q8_3_1 q8_3_2 q8_3_3 q8_3_4 q8_3_5 q8_3_6 q8_3_7 q8_3_8 q8_3_9 q8_3_10 q8_3_11 q8_3_12 hb8 hb9 hr9
  go_wp2_with fail
  refine (markNodeX_c al4 cl4 av4 cv4 an4 cn4 am4 cm4 N 1 (w3.heap.size + 1) (w4.heap.size) _ HX49.out (by omega) HMK.out).mono ?_
  rw [HK0.out]
  rintro e w10 ⟨rfl, _, hb10⟩
  have hz10 := hb10.size
  have HS10 := Lib.hid (HS9.out.mid hb10 (by omega))
  clear HS9
  have HI510 := Lib.hid (HI59.out.mid hb10 (by omega))
  clear HI59
  have HY510 := Lib.hid (HY59.out.mid hb10 (by omega))
  clear HY59
  have q10_0_0 : w10.cell? ⟨w.heap.size, 0, none⟩ = some (.int .i64 N.id) := by
    rw [hb10.cell (p := ⟨w.heap.size, 0, none⟩) (show w.heap.size < _ by (try simp) <;> (try omega)) (by show w.heap.size < _ ∨ _ ≤ w.heap.size; omega)]
    exact q9_0_0
  have q10_0_1 : w10.cell? ⟨w.heap.size, 1, none⟩ = some (.int .i64 N.nodes) := by
    rw [hb10.cell (p := ⟨w.heap.size, 1, none⟩) (show w.heap.size < _ by (try simp) <;> (try omega)) (by show w.heap.size < _ ∨ _ ≤ w.heap.size; omega)]
    exact q9_0_1
  have q10_0_2 : w10.cell? ⟨w.heap.size, 2, none⟩ = some (.int .i64 N.term) := by
    rw [hb10.cell (p := ⟨w.heap.size, 2, none⟩) (show w.heap.size < _ by (try simp) <;> (try omega)) (by show w.heap.size < _ ∨ _ ≤ w.heap.size; omega)]
    exact q9_0_2
  have q10_0_3 : w10.cell? ⟨w.heap.size, 3, none⟩ = some (.int .i64 N.vote) := by
    rw [hb10.cell (p := ⟨w.heap.size, 3, none⟩) (show w.heap.size < _ by (try simp) <;> (try omega)) (by show w.heap.size < _ ∨ _ ≤ w.heap.size; omega)]
    exact q9_0_3
  have q10_0_4 : w10.cell? ⟨w.heap.size, 4, none⟩ = some (.int .i64 N.role) := by
    rw [hb10.cell (p := ⟨w.heap.size, 4, none⟩) (show w.heap.size < _ by (try simp) <;> (try omega)) (by show w.heap.size < _ ∨ _ ≤ w.heap.size; omega)]
    exact q9_0_4
  have q10_0_5 : w10.cell? ⟨w.heap.size, 5, none⟩ = some (.bool N.up) := by
    rw [hb10.cell (p := ⟨w.heap.size, 5, none⟩) (show w.heap.size < _ by (try simp) <;> (try omega)) (by show w.heap.size < _ ∨ _ ≤ w.heap.size; omega)]
    exact q9_0_5
  have q10_0_6 : w10.cell? ⟨w.heap.size, 6, none⟩ = some (.slice al N.log.length cl) := by
    rw [hb10.cell (p := ⟨w.heap.size, 6, none⟩) (show w.heap.size < _ by (try simp) <;> (try omega)) (by show w.heap.size < _ ∨ _ ≤ w.heap.size; omega)]
    exact q9_0_6
  have q10_0_7 : w10.cell? ⟨w.heap.size, 7, none⟩ = some (.int .i64 N.commit) := by
    rw [hb10.cell (p := ⟨w.heap.size, 7, none⟩) (show w.heap.size < _ by (try simp) <;> (try omega)) (by show w.heap.size < _ ∨ _ ≤ w.heap.size; omega)]
    exact q9_0_7
  have q10_0_8 : w10.cell? ⟨w.heap.size, 8, none⟩ = some (.int .i64 N.elapsed) := by
    rw [hb10.cell (p := ⟨w.heap.size, 8, none⟩) (show w.heap.size < _ by (try simp) <;> (try omega)) (by show w.heap.size < _ ∨ _ ≤ w.heap.size; omega)]
    exact q9_0_8
  have q10_0_9 : w10.cell? ⟨w.heap.size, 9, none⟩ = some (.int .i64 N.wait) := by
    rw [hb10.cell (p := ⟨w.heap.size, 9, none⟩) (show w.heap.size < _ by (try simp) <;> (try omega)) (by show w.heap.size < _ ∨ _ ≤ w.heap.size; omega)]
    exact q9_0_9
  have q10_0_10 : w10.cell? ⟨w.heap.size, 10, none⟩ = some (.slice av N.votes.length cv) := by
    rw [hb10.cell (p := ⟨w.heap.size, 10, none⟩) (show w.heap.size < _ by (try simp) <;> (try omega)) (by show w.heap.size < _ ∨ _ ≤ w.heap.size; omega)]
    exact q9_0_10
  have q10_0_11 : w10.cell? ⟨w.heap.size, 11, none⟩ = some (.slice an N.next.length cn) := by
    rw [hb10.cell (p := ⟨w.heap.size, 11, none⟩) (show w.heap.size < _ by (try simp) <;> (try omega)) (by show w.heap.size < _ ∨ _ ≤ w.heap.size; omega)]
    exact q9_0_11
  have q10_0_12 : w10.cell? ⟨w.heap.size, 12, none⟩ = some (.slice am N.mtch.length cm) := by
    rw [hb10.cell (p := ⟨w.heap.size, 12, none⟩) (show w.heap.size < _ by (try simp) <;> (try omega)) (by show w.heap.size < _ ∨ _ ≤ w.heap.size; omega)]
    exact q9_0_12
  have hl10_0 : w.heap.size < w10.heap.size := by omega
  clear q9_0_0 q9_0_1 q9_0_2 q9_0_3 q9_0_4 q9_0_5 q9_0_6 q9_0_7 q9_0_8 q9_0_9 q9_0_10 q9_0_11 q9_0_12
  have q10_1_0 : w10.cell? ⟨w3.heap.size, 0, none⟩ = some (.int .i64 M.id) := by
    rw [hb10.cell (p := ⟨w3.heap.size, 0, none⟩) (show w3.heap.size < _ by (try simp) <;> (try omega)) (by show w3.heap.size < _ ∨ _ ≤ w3.heap.size; omega)]
    exact q9_1_0
  have q10_1_1 : w10.cell? ⟨w3.heap.size, 1, none⟩ = some (.int .i64 M.nodes) := by
    rw [hb10.cell (p := ⟨w3.heap.size, 1, none⟩) (show w3.heap.size < _ by (try simp) <;> (try omega)) (by show w3.heap.size < _ ∨ _ ≤ w3.heap.size; omega)]
    exact q9_1_1
  have q10_1_2 : w10.cell? ⟨w3.heap.size, 2, none⟩ = some (.int .i64 M.term) := by
    rw [hb10.cell (p := ⟨w3.heap.size, 2, none⟩) (show w3.heap.size < _ by (try simp) <;> (try omega)) (by show w3.heap.size < _ ∨ _ ≤ w3.heap.size; omega)]
    exact q9_1_2
  have q10_1_3 : w10.cell? ⟨w3.heap.size, 3, none⟩ = some (.int .i64 M.vote) := by
    rw [hb10.cell (p := ⟨w3.heap.size, 3, none⟩) (show w3.heap.size < _ by (try simp) <;> (try omega)) (by show w3.heap.size < _ ∨ _ ≤ w3.heap.size; omega)]
    exact q9_1_3
  have q10_1_4 : w10.cell? ⟨w3.heap.size, 4, none⟩ = some (.int .i64 M.role) := by
    rw [hb10.cell (p := ⟨w3.heap.size, 4, none⟩) (show w3.heap.size < _ by (try simp) <;> (try omega)) (by show w3.heap.size < _ ∨ _ ≤ w3.heap.size; omega)]
    exact q9_1_4
  have q10_1_5 : w10.cell? ⟨w3.heap.size, 5, none⟩ = some (.bool M.up) := by
    rw [hb10.cell (p := ⟨w3.heap.size, 5, none⟩) (show w3.heap.size < _ by (try simp) <;> (try omega)) (by show w3.heap.size < _ ∨ _ ≤ w3.heap.size; omega)]
    exact q9_1_5
  have q10_1_6 : w10.cell? ⟨w3.heap.size, 6, none⟩ = some (.slice al3 M.log.length cl3) := by
    rw [hb10.cell (p := ⟨w3.heap.size, 6, none⟩) (show w3.heap.size < _ by (try simp) <;> (try omega)) (by show w3.heap.size < _ ∨ _ ≤ w3.heap.size; omega)]
    exact q9_1_6
  have q10_1_7 : w10.cell? ⟨w3.heap.size, 7, none⟩ = some (.int .i64 M.commit) := by
    rw [hb10.cell (p := ⟨w3.heap.size, 7, none⟩) (show w3.heap.size < _ by (try simp) <;> (try omega)) (by show w3.heap.size < _ ∨ _ ≤ w3.heap.size; omega)]
    exact q9_1_7
  have q10_1_8 : w10.cell? ⟨w3.heap.size, 8, none⟩ = some (.int .i64 M.elapsed) := by
    rw [hb10.cell (p := ⟨w3.heap.size, 8, none⟩) (show w3.heap.size < _ by (try simp) <;> (try omega)) (by show w3.heap.size < _ ∨ _ ≤ w3.heap.size; omega)]
    exact q9_1_8
  have q10_1_9 : w10.cell? ⟨w3.heap.size, 9, none⟩ = some (.int .i64 M.wait) := by
    rw [hb10.cell (p := ⟨w3.heap.size, 9, none⟩) (show w3.heap.size < _ by (try simp) <;> (try omega)) (by show w3.heap.size < _ ∨ _ ≤ w3.heap.size; omega)]
    exact q9_1_9
  have q10_1_10 : w10.cell? ⟨w3.heap.size, 10, none⟩ = some (.slice av3 M.votes.length cv3) := by
    rw [hb10.cell (p := ⟨w3.heap.size, 10, none⟩) (show w3.heap.size < _ by (try simp) <;> (try omega)) (by show w3.heap.size < _ ∨ _ ≤ w3.heap.size; omega)]
    exact q9_1_10
  have q10_1_11 : w10.cell? ⟨w3.heap.size, 11, none⟩ = some (.slice an3 M.next.length cn3) := by
    rw [hb10.cell (p := ⟨w3.heap.size, 11, none⟩) (show w3.heap.size < _ by (try simp) <;> (try omega)) (by show w3.heap.size < _ ∨ _ ≤ w3.heap.size; omega)]
    exact q9_1_11
  have q10_1_12 : w10.cell? ⟨w3.heap.size, 12, none⟩ = some (.slice am3 M.mtch.length cm3) := by
    rw [hb10.cell (p := ⟨w3.heap.size, 12, none⟩) (show w3.heap.size < _ by (try simp) <;> (try omega)) (by show w3.heap.size < _ ∨ _ ≤ w3.heap.size; omega)]
    exact q9_1_12
  have hl10_1 : w3.heap.size < w10.heap.size := by omega
  clear q9_1_0 q9_1_1 q9_1_2 q9_1_3 q9_1_4 q9_1_5 q9_1_6 q9_1_7 q9_1_8 q9_1_9 q9_1_10 q9_1_11 q9_1_12
  have q10_2_0 : w10.cell? ⟨w4.heap.size, 0, none⟩ = some (.int .i64 N.id) := by
    rw [hb10.cell (p := ⟨w4.heap.size, 0, none⟩) (show w4.heap.size < _ by (try simp) <;> (try omega)) (by show w4.heap.size < _ ∨ _ ≤ w4.heap.size; omega)]
    exact q9_2_0
  have q10_2_1 : w10.cell? ⟨w4.heap.size, 1, none⟩ = some (.int .i64 N.nodes) := by
    rw [hb10.cell (p := ⟨w4.heap.size, 1, none⟩) (show w4.heap.size < _ by (try simp) <;> (try omega)) (by show w4.heap.size < _ ∨ _ ≤ w4.heap.size; omega)]
    exact q9_2_1
  have q10_2_2 : w10.cell? ⟨w4.heap.size, 2, none⟩ = some (.int .i64 N.term) := by
    rw [hb10.cell (p := ⟨w4.heap.size, 2, none⟩) (show w4.heap.size < _ by (try simp) <;> (try omega)) (by show w4.heap.size < _ ∨ _ ≤ w4.heap.size; omega)]
    exact q9_2_2
  have q10_2_3 : w10.cell? ⟨w4.heap.size, 3, none⟩ = some (.int .i64 N.vote) := by
    rw [hb10.cell (p := ⟨w4.heap.size, 3, none⟩) (show w4.heap.size < _ by (try simp) <;> (try omega)) (by show w4.heap.size < _ ∨ _ ≤ w4.heap.size; omega)]
    exact q9_2_3
  have q10_2_4 : w10.cell? ⟨w4.heap.size, 4, none⟩ = some (.int .i64 N.role) := by
    rw [hb10.cell (p := ⟨w4.heap.size, 4, none⟩) (show w4.heap.size < _ by (try simp) <;> (try omega)) (by show w4.heap.size < _ ∨ _ ≤ w4.heap.size; omega)]
    exact q9_2_4
  have q10_2_5 : w10.cell? ⟨w4.heap.size, 5, none⟩ = some (.bool N.up) := by
    rw [hb10.cell (p := ⟨w4.heap.size, 5, none⟩) (show w4.heap.size < _ by (try simp) <;> (try omega)) (by show w4.heap.size < _ ∨ _ ≤ w4.heap.size; omega)]
    exact q9_2_5
  have q10_2_6 : w10.cell? ⟨w4.heap.size, 6, none⟩ = some (.slice al4 N.log.length cl4) := by
    rw [hb10.cell (p := ⟨w4.heap.size, 6, none⟩) (show w4.heap.size < _ by (try simp) <;> (try omega)) (by show w4.heap.size < _ ∨ _ ≤ w4.heap.size; omega)]
    exact q9_2_6
  have q10_2_7 : w10.cell? ⟨w4.heap.size, 7, none⟩ = some (.int .i64 N.commit) := by
    rw [hb10.cell (p := ⟨w4.heap.size, 7, none⟩) (show w4.heap.size < _ by (try simp) <;> (try omega)) (by show w4.heap.size < _ ∨ _ ≤ w4.heap.size; omega)]
    exact q9_2_7
  have q10_2_8 : w10.cell? ⟨w4.heap.size, 8, none⟩ = some (.int .i64 N.elapsed) := by
    rw [hb10.cell (p := ⟨w4.heap.size, 8, none⟩) (show w4.heap.size < _ by (try simp) <;> (try omega)) (by show w4.heap.size < _ ∨ _ ≤ w4.heap.size; omega)]
    exact q9_2_8
  have q10_2_9 : w10.cell? ⟨w4.heap.size, 9, none⟩ = some (.int .i64 N.wait) := by
    rw [hb10.cell (p := ⟨w4.heap.size, 9, none⟩) (show w4.heap.size < _ by (try simp) <;> (try omega)) (by show w4.heap.size < _ ∨ _ ≤ w4.heap.size; omega)]
    exact q9_2_9
  have q10_2_10 : w10.cell? ⟨w4.heap.size, 10, none⟩ = some (.slice av4 N.votes.length cv4) := by
    rw [hb10.cell (p := ⟨w4.heap.size, 10, none⟩) (show w4.heap.size < _ by (try simp) <;> (try omega)) (by show w4.heap.size < _ ∨ _ ≤ w4.heap.size; omega)]
    exact q9_2_10
  have q10_2_11 : w10.cell? ⟨w4.heap.size, 11, none⟩ = some (.slice an4 N.next.length cn4) := by
    rw [hb10.cell (p := ⟨w4.heap.size, 11, none⟩) (show w4.heap.size < _ by (try simp) <;> (try omega)) (by show w4.heap.size < _ ∨ _ ≤ w4.heap.size; omega)]
    exact q9_2_11
  have q10_2_12 : w10.cell? ⟨w4.heap.size, 12, none⟩ = some (.slice am4 N.mtch.length cm4) := by
    rw [hb10.cell (p := ⟨w4.heap.size, 12, none⟩) (show w4.heap.size < _ by (try simp) <;> (try omega)) (by show w4.heap.size < _ ∨ _ ≤ w4.heap.size; omega)]
    exact q9_2_12
  have hl10_2 : w4.heap.size < w10.heap.size := by omega
  clear q9_2_0 q9_2_1 q9_2_2 q9_2_3 q9_2_4 q9_2_5 q9_2_6 q9_2_7 q9_2_8 q9_2_9 q9_2_10 q9_2_11 q9_2_12
  have q10_3_0 : w10.cell? ⟨w5.heap.size, 0, none⟩ = some (.int .i64 M.id) := by
    rw [hb10.cell (p := ⟨w5.heap.size, 0, none⟩) (show w5.heap.size < _ by (try simp) <;> (try omega)) (by show w5.heap.size < _ ∨ _ ≤ w5.heap.size; omega)]
    exact q9_3_0
  have q10_3_1 : w10.cell? ⟨w5.heap.size, 1, none⟩ = some (.int .i64 M.nodes) := by
    rw [hb10.cell (p := ⟨w5.heap.size, 1, none⟩) (show w5.heap.size < _ by (try simp) <;> (try omega)) (by show w5.heap.size < _ ∨ _ ≤ w5.heap.size; omega)]
    exact q9_3_1
  have q10_3_2 : w10.cell? ⟨w5.heap.size, 2, none⟩ = some (.int .i64 M.term) := by
    rw [hb10.cell (p := ⟨w5.heap.size, 2, none⟩) (show w5.heap.size < _ by (try simp) <;> (try omega)) (by show w5.heap.size < _ ∨ _ ≤ w5.heap.size; omega)]
    exact q9_3_2
  have q10_3_3 : w10.cell? ⟨w5.heap.size, 3, none⟩ = some (.int .i64 M.vote) := by
    rw [hb10.cell (p := ⟨w5.heap.size, 3, none⟩) (show w5.heap.size < _ by (try simp) <;> (try omega)) (by show w5.heap.size < _ ∨ _ ≤ w5.heap.size; omega)]
    exact q9_3_3
  have q10_3_4 : w10.cell? ⟨w5.heap.size, 4, none⟩ = some (.int .i64 M.role) := by
    rw [hb10.cell (p := ⟨w5.heap.size, 4, none⟩) (show w5.heap.size < _ by (try simp) <;> (try omega)) (by show w5.heap.size < _ ∨ _ ≤ w5.heap.size; omega)]
    exact q9_3_4
  have q10_3_5 : w10.cell? ⟨w5.heap.size, 5, none⟩ = some (.bool M.up) := by
    rw [hb10.cell (p := ⟨w5.heap.size, 5, none⟩) (show w5.heap.size < _ by (try simp) <;> (try omega)) (by show w5.heap.size < _ ∨ _ ≤ w5.heap.size; omega)]
    exact q9_3_5
  have q10_3_6 : w10.cell? ⟨w5.heap.size, 6, none⟩ = some (.slice al5 M.log.length cl5) := by
    rw [hb10.cell (p := ⟨w5.heap.size, 6, none⟩) (show w5.heap.size < _ by (try simp) <;> (try omega)) (by show w5.heap.size < _ ∨ _ ≤ w5.heap.size; omega)]
    exact q9_3_6
  have q10_3_7 : w10.cell? ⟨w5.heap.size, 7, none⟩ = some (.int .i64 M.commit) := by
    rw [hb10.cell (p := ⟨w5.heap.size, 7, none⟩) (show w5.heap.size < _ by (try simp) <;> (try omega)) (by show w5.heap.size < _ ∨ _ ≤ w5.heap.size; omega)]
    exact q9_3_7
  have q10_3_8 : w10.cell? ⟨w5.heap.size, 8, none⟩ = some (.int .i64 M.elapsed) := by
    rw [hb10.cell (p := ⟨w5.heap.size, 8, none⟩) (show w5.heap.size < _ by (try simp) <;> (try omega)) (by show w5.heap.size < _ ∨ _ ≤ w5.heap.size; omega)]
    exact q9_3_8
  have q10_3_9 : w10.cell? ⟨w5.heap.size, 9, none⟩ = some (.int .i64 M.wait) := by
    rw [hb10.cell (p := ⟨w5.heap.size, 9, none⟩) (show w5.heap.size < _ by (try simp) <;> (try omega)) (by show w5.heap.size < _ ∨ _ ≤ w5.heap.size; omega)]
    exact q9_3_9
  have q10_3_10 : w10.cell? ⟨w5.heap.size, 10, none⟩ = some (.slice av5 M.votes.length cv5) := by
    rw [hb10.cell (p := ⟨w5.heap.size, 10, none⟩) (show w5.heap.size < _ by (try simp) <;> (try omega)) (by show w5.heap.size < _ ∨ _ ≤ w5.heap.size; omega)]
    exact q9_3_10
  have q10_3_11 : w10.cell? ⟨w5.heap.size, 11, none⟩ = some (.slice an5 M.next.length cn5) := by
    rw [hb10.cell (p := ⟨w5.heap.size, 11, none⟩) (show w5.heap.size < _ by (try simp) <;> (try omega)) (by show w5.heap.size < _ ∨ _ ≤ w5.heap.size; omega)]
    exact q9_3_11
  have q10_3_12 : w10.cell? ⟨w5.heap.size, 12, none⟩ = some (.slice am5 M.mtch.length cm5) := by
    rw [hb10.cell (p := ⟨w5.heap.size, 12, none⟩) (show w5.heap.size < _ by (try simp) <;> (try omega)) (by show w5.heap.size < _ ∨ _ ≤ w5.heap.size; omega)]
    exact q9_3_12
  have hl10_3 : w5.heap.size < w10.heap.size := by omega
  clear q9_3_0 q9_3_1 q9_3_2 q9_3_3 q9_3_4 q9_3_5 q9_3_6 q9_3_7 q9_3_8 q9_3_9 q9_3_10 q9_3_11 q9_3_12
  have HB10 : Hid (Below w.heap.size w w10) := HB9.out.trans (hb10.below (by omega) (by (try simp) <;> (try omega)))
  clear hb10
  clear HX49
  go_wp2_with fail
  refine (eqNode_same al5 cl5 av5 cv5 an5 cn5 am5 cm5 al3 cl3 av3 cv3 an3 cn3 am3 cm3 M _ (HI510.out.sl) (HS10.out.node) HZM.out).mono ?_
  rintro e w11 ⟨rfl, hb11⟩
  have hz11 := hb11.size
  have HS11 := Lib.hid (HS10.out.below hb11)
  clear HS10
  have HI511 := Lib.hid (HI510.out.below hb11)
  clear HI510
  have HY511 := Lib.hid (HY510.out.below hb11)
  clear HY510
  have q11_0_0 : w11.cell? ⟨w.heap.size, 0, none⟩ = some (.int .i64 N.id) := by
    rw [hb11.cell (p := ⟨w.heap.size, 0, none⟩) (show w.heap.size < _ by (try simp) <;> (try omega))]
    exact q10_0_0
  have q11_0_1 : w11.cell? ⟨w.heap.size, 1, none⟩ = some (.int .i64 N.nodes) := by
    rw [hb11.cell (p := ⟨w.heap.size, 1, none⟩) (show w.heap.size < _ by (try simp) <;> (try omega))]
    exact q10_0_1
  have q11_0_2 : w11.cell? ⟨w.heap.size, 2, none⟩ = some (.int .i64 N.term) := by
    rw [hb11.cell (p := ⟨w.heap.size, 2, none⟩) (show w.heap.size < _ by (try simp) <;> (try omega))]
    exact q10_0_2
  have q11_0_3 : w11.cell? ⟨w.heap.size, 3, none⟩ = some (.int .i64 N.vote) := by
    rw [hb11.cell (p := ⟨w.heap.size, 3, none⟩) (show w.heap.size < _ by (try simp) <;> (try omega))]
    exact q10_0_3
  have q11_0_4 : w11.cell? ⟨w.heap.size, 4, none⟩ = some (.int .i64 N.role) := by
    rw [hb11.cell (p := ⟨w.heap.size, 4, none⟩) (show w.heap.size < _ by (try simp) <;> (try omega))]
    exact q10_0_4
  have q11_0_5 : w11.cell? ⟨w.heap.size, 5, none⟩ = some (.bool N.up) := by
    rw [hb11.cell (p := ⟨w.heap.size, 5, none⟩) (show w.heap.size < _ by (try simp) <;> (try omega))]
    exact q10_0_5
  have q11_0_6 : w11.cell? ⟨w.heap.size, 6, none⟩ = some (.slice al N.log.length cl) := by
    rw [hb11.cell (p := ⟨w.heap.size, 6, none⟩) (show w.heap.size < _ by (try simp) <;> (try omega))]
    exact q10_0_6
  have q11_0_7 : w11.cell? ⟨w.heap.size, 7, none⟩ = some (.int .i64 N.commit) := by
    rw [hb11.cell (p := ⟨w.heap.size, 7, none⟩) (show w.heap.size < _ by (try simp) <;> (try omega))]
    exact q10_0_7
  have q11_0_8 : w11.cell? ⟨w.heap.size, 8, none⟩ = some (.int .i64 N.elapsed) := by
    rw [hb11.cell (p := ⟨w.heap.size, 8, none⟩) (show w.heap.size < _ by (try simp) <;> (try omega))]
    exact q10_0_8
  have q11_0_9 : w11.cell? ⟨w.heap.size, 9, none⟩ = some (.int .i64 N.wait) := by
    rw [hb11.cell (p := ⟨w.heap.size, 9, none⟩) (show w.heap.size < _ by (try simp) <;> (try omega))]
    exact q10_0_9
  have q11_0_10 : w11.cell? ⟨w.heap.size, 10, none⟩ = some (.slice av N.votes.length cv) := by
    rw [hb11.cell (p := ⟨w.heap.size, 10, none⟩) (show w.heap.size < _ by (try simp) <;> (try omega))]
    exact q10_0_10
  have q11_0_11 : w11.cell? ⟨w.heap.size, 11, none⟩ = some (.slice an N.next.length cn) := by
    rw [hb11.cell (p := ⟨w.heap.size, 11, none⟩) (show w.heap.size < _ by (try simp) <;> (try omega))]
    exact q10_0_11
  have q11_0_12 : w11.cell? ⟨w.heap.size, 12, none⟩ = some (.slice am N.mtch.length cm) := by
    rw [hb11.cell (p := ⟨w.heap.size, 12, none⟩) (show w.heap.size < _ by (try simp) <;> (try omega))]
    exact q10_0_12
  have hl11_0 : w.heap.size < w11.heap.size := by omega
  clear q10_0_0 q10_0_1 q10_0_2 q10_0_3 q10_0_4 q10_0_5 q10_0_6 q10_0_7 q10_0_8 q10_0_9 q10_0_10 q10_0_11 q10_0_12
  have q11_1_0 : w11.cell? ⟨w3.heap.size, 0, none⟩ = some (.int .i64 M.id) := by
    rw [hb11.cell (p := ⟨w3.heap.size, 0, none⟩) (show w3.heap.size < _ by (try simp) <;> (try omega))]
    exact q10_1_0
  have q11_1_1 : w11.cell? ⟨w3.heap.size, 1, none⟩ = some (.int .i64 M.nodes) := by
    rw [hb11.cell (p := ⟨w3.heap.size, 1, none⟩) (show w3.heap.size < _ by (try simp) <;> (try omega))]
    exact q10_1_1
  have q11_1_2 : w11.cell? ⟨w3.heap.size, 2, none⟩ = some (.int .i64 M.term) := by
    rw [hb11.cell (p := ⟨w3.heap.size, 2, none⟩) (show w3.heap.size < _ by (try simp) <;> (try omega))]
    exact q10_1_2
  have q11_1_3 : w11.cell? ⟨w3.heap.size, 3, none⟩ = some (.int .i64 M.vote) := by
    rw [hb11.cell (p := ⟨w3.heap.size, 3, none⟩) (show w3.heap.size < _ by (try simp) <;> (try omega))]
    exact q10_1_3
  have q11_1_4 : w11.cell? ⟨w3.heap.size, 4, none⟩ = some (.int .i64 M.role) := by
    rw [hb11.cell (p := ⟨w3.heap.size, 4, none⟩) (show w3.heap.size < _ by (try simp) <;> (try omega))]
    exact q10_1_4
  have q11_1_5 : w11.cell? ⟨w3.heap.size, 5, none⟩ = some (.bool M.up) := by
    rw [hb11.cell (p := ⟨w3.heap.size, 5, none⟩) (show w3.heap.size < _ by (try simp) <;> (try omega))]
    exact q10_1_5
  have q11_1_6 : w11.cell? ⟨w3.heap.size, 6, none⟩ = some (.slice al3 M.log.length cl3) := by
    rw [hb11.cell (p := ⟨w3.heap.size, 6, none⟩) (show w3.heap.size < _ by (try simp) <;> (try omega))]
    exact q10_1_6
  have q11_1_7 : w11.cell? ⟨w3.heap.size, 7, none⟩ = some (.int .i64 M.commit) := by
    rw [hb11.cell (p := ⟨w3.heap.size, 7, none⟩) (show w3.heap.size < _ by (try simp) <;> (try omega))]
    exact q10_1_7
  have q11_1_8 : w11.cell? ⟨w3.heap.size, 8, none⟩ = some (.int .i64 M.elapsed) := by
    rw [hb11.cell (p := ⟨w3.heap.size, 8, none⟩) (show w3.heap.size < _ by (try simp) <;> (try omega))]
    exact q10_1_8
  have q11_1_9 : w11.cell? ⟨w3.heap.size, 9, none⟩ = some (.int .i64 M.wait) := by
    rw [hb11.cell (p := ⟨w3.heap.size, 9, none⟩) (show w3.heap.size < _ by (try simp) <;> (try omega))]
    exact q10_1_9
  have q11_1_10 : w11.cell? ⟨w3.heap.size, 10, none⟩ = some (.slice av3 M.votes.length cv3) := by
    rw [hb11.cell (p := ⟨w3.heap.size, 10, none⟩) (show w3.heap.size < _ by (try simp) <;> (try omega))]
    exact q10_1_10
  have q11_1_11 : w11.cell? ⟨w3.heap.size, 11, none⟩ = some (.slice an3 M.next.length cn3) := by
    rw [hb11.cell (p := ⟨w3.heap.size, 11, none⟩) (show w3.heap.size < _ by (try simp) <;> (try omega))]
    exact q10_1_11
  have q11_1_12 : w11.cell? ⟨w3.heap.size, 12, none⟩ = some (.slice am3 M.mtch.length cm3) := by
    rw [hb11.cell (p := ⟨w3.heap.size, 12, none⟩) (show w3.heap.size < _ by (try simp) <;> (try omega))]
    exact q10_1_12
  have hl11_1 : w3.heap.size < w11.heap.size := by omega
  clear q10_1_0 q10_1_1 q10_1_2 q10_1_3 q10_1_4 q10_1_5 q10_1_6 q10_1_7 q10_1_8 q10_1_9 q10_1_10 q10_1_11 q10_1_12
  have q11_2_0 : w11.cell? ⟨w4.heap.size, 0, none⟩ = some (.int .i64 N.id) := by
    rw [hb11.cell (p := ⟨w4.heap.size, 0, none⟩) (show w4.heap.size < _ by (try simp) <;> (try omega))]
    exact q10_2_0
  have q11_2_1 : w11.cell? ⟨w4.heap.size, 1, none⟩ = some (.int .i64 N.nodes) := by
    rw [hb11.cell (p := ⟨w4.heap.size, 1, none⟩) (show w4.heap.size < _ by (try simp) <;> (try omega))]
    exact q10_2_1
  have q11_2_2 : w11.cell? ⟨w4.heap.size, 2, none⟩ = some (.int .i64 N.term) := by
    rw [hb11.cell (p := ⟨w4.heap.size, 2, none⟩) (show w4.heap.size < _ by (try simp) <;> (try omega))]
    exact q10_2_2
  have q11_2_3 : w11.cell? ⟨w4.heap.size, 3, none⟩ = some (.int .i64 N.vote) := by
    rw [hb11.cell (p := ⟨w4.heap.size, 3, none⟩) (show w4.heap.size < _ by (try simp) <;> (try omega))]
    exact q10_2_3
  have q11_2_4 : w11.cell? ⟨w4.heap.size, 4, none⟩ = some (.int .i64 N.role) := by
    rw [hb11.cell (p := ⟨w4.heap.size, 4, none⟩) (show w4.heap.size < _ by (try simp) <;> (try omega))]
    exact q10_2_4
  have q11_2_5 : w11.cell? ⟨w4.heap.size, 5, none⟩ = some (.bool N.up) := by
    rw [hb11.cell (p := ⟨w4.heap.size, 5, none⟩) (show w4.heap.size < _ by (try simp) <;> (try omega))]
    exact q10_2_5
  have q11_2_6 : w11.cell? ⟨w4.heap.size, 6, none⟩ = some (.slice al4 N.log.length cl4) := by
    rw [hb11.cell (p := ⟨w4.heap.size, 6, none⟩) (show w4.heap.size < _ by (try simp) <;> (try omega))]
    exact q10_2_6
  have q11_2_7 : w11.cell? ⟨w4.heap.size, 7, none⟩ = some (.int .i64 N.commit) := by
    rw [hb11.cell (p := ⟨w4.heap.size, 7, none⟩) (show w4.heap.size < _ by (try simp) <;> (try omega))]
    exact q10_2_7
  have q11_2_8 : w11.cell? ⟨w4.heap.size, 8, none⟩ = some (.int .i64 N.elapsed) := by
    rw [hb11.cell (p := ⟨w4.heap.size, 8, none⟩) (show w4.heap.size < _ by (try simp) <;> (try omega))]
    exact q10_2_8
  have q11_2_9 : w11.cell? ⟨w4.heap.size, 9, none⟩ = some (.int .i64 N.wait) := by
    rw [hb11.cell (p := ⟨w4.heap.size, 9, none⟩) (show w4.heap.size < _ by (try simp) <;> (try omega))]
    exact q10_2_9
  have q11_2_10 : w11.cell? ⟨w4.heap.size, 10, none⟩ = some (.slice av4 N.votes.length cv4) := by
    rw [hb11.cell (p := ⟨w4.heap.size, 10, none⟩) (show w4.heap.size < _ by (try simp) <;> (try omega))]
    exact q10_2_10
  have q11_2_11 : w11.cell? ⟨w4.heap.size, 11, none⟩ = some (.slice an4 N.next.length cn4) := by
    rw [hb11.cell (p := ⟨w4.heap.size, 11, none⟩) (show w4.heap.size < _ by (try simp) <;> (try omega))]
    exact q10_2_11
  have q11_2_12 : w11.cell? ⟨w4.heap.size, 12, none⟩ = some (.slice am4 N.mtch.length cm4) := by
    rw [hb11.cell (p := ⟨w4.heap.size, 12, none⟩) (show w4.heap.size < _ by (try simp) <;> (try omega))]
    exact q10_2_12
  have hl11_2 : w4.heap.size < w11.heap.size := by omega
  clear q10_2_0 q10_2_1 q10_2_2 q10_2_3 q10_2_4 q10_2_5 q10_2_6 q10_2_7 q10_2_8 q10_2_9 q10_2_10 q10_2_11 q10_2_12
  have q11_3_0 : w11.cell? ⟨w5.heap.size, 0, none⟩ = some (.int .i64 M.id) := by
    rw [hb11.cell (p := ⟨w5.heap.size, 0, none⟩) (show w5.heap.size < _ by (try simp) <;> (try omega))]
    exact q10_3_0
  have q11_3_1 : w11.cell? ⟨w5.heap.size, 1, none⟩ = some (.int .i64 M.nodes) := by
    rw [hb11.cell (p := ⟨w5.heap.size, 1, none⟩) (show w5.heap.size < _ by (try simp) <;> (try omega))]
    exact q10_3_1
  have q11_3_2 : w11.cell? ⟨w5.heap.size, 2, none⟩ = some (.int .i64 M.term) := by
    rw [hb11.cell (p := ⟨w5.heap.size, 2, none⟩) (show w5.heap.size < _ by (try simp) <;> (try omega))]
    exact q10_3_2
  have q11_3_3 : w11.cell? ⟨w5.heap.size, 3, none⟩ = some (.int .i64 M.vote) := by
    rw [hb11.cell (p := ⟨w5.heap.size, 3, none⟩) (show w5.heap.size < _ by (try simp) <;> (try omega))]
    exact q10_3_3
  have q11_3_4 : w11.cell? ⟨w5.heap.size, 4, none⟩ = some (.int .i64 M.role) := by
    rw [hb11.cell (p := ⟨w5.heap.size, 4, none⟩) (show w5.heap.size < _ by (try simp) <;> (try omega))]
    exact q10_3_4
  have q11_3_5 : w11.cell? ⟨w5.heap.size, 5, none⟩ = some (.bool M.up) := by
    rw [hb11.cell (p := ⟨w5.heap.size, 5, none⟩) (show w5.heap.size < _ by (try simp) <;> (try omega))]
    exact q10_3_5
  have q11_3_6 : w11.cell? ⟨w5.heap.size, 6, none⟩ = some (.slice al5 M.log.length cl5) := by
    rw [hb11.cell (p := ⟨w5.heap.size, 6, none⟩) (show w5.heap.size < _ by (try simp) <;> (try omega))]
    exact q10_3_6
  have q11_3_7 : w11.cell? ⟨w5.heap.size, 7, none⟩ = some (.int .i64 M.commit) := by
    rw [hb11.cell (p := ⟨w5.heap.size, 7, none⟩) (show w5.heap.size < _ by (try simp) <;> (try omega))]
    exact q10_3_7
  have q11_3_8 : w11.cell? ⟨w5.heap.size, 8, none⟩ = some (.int .i64 M.elapsed) := by
    rw [hb11.cell (p := ⟨w5.heap.size, 8, none⟩) (show w5.heap.size < _ by (try simp) <;> (try omega))]
    exact q10_3_8
  have q11_3_9 : w11.cell? ⟨w5.heap.size, 9, none⟩ = some (.int .i64 M.wait) := by
    rw [hb11.cell (p := ⟨w5.heap.size, 9, none⟩) (show w5.heap.size < _ by (try simp) <;> (try omega))]
    exact q10_3_9
  have q11_3_10 : w11.cell? ⟨w5.heap.size, 10, none⟩ = some (.slice av5 M.votes.length cv5) := by
    rw [hb11.cell (p := ⟨w5.heap.size, 10, none⟩) (show w5.heap.size < _ by (try simp) <;> (try omega))]
    exact q10_3_10
  have q11_3_11 : w11.cell? ⟨w5.heap.size, 11, none⟩ = some (.slice an5 M.next.length cn5) := by
    rw [hb11.cell (p := ⟨w5.heap.size, 11, none⟩) (show w5.heap.size < _ by (try simp) <;> (try omega))]
    exact q10_3_11
  have q11_3_12 : w11.cell? ⟨w5.heap.size, 12, none⟩ = some (.slice am5 M.mtch.length cm5) := by
    rw [hb11.cell (p := ⟨w5.heap.size, 12, none⟩) (show w5.heap.size < _ by (try simp) <;> (try omega))]
    exact q10_3_12
  have hl11_3 : w5.heap.size < w11.heap.size := by omega
  clear q10_3_0 q10_3_1 q10_3_2 q10_3_3 q10_3_4 q10_3_5 q10_3_6 q10_3_7 q10_3_8 q10_3_9 q10_3_10 q10_3_11 q10_3_12
  have HB11 : Hid (Below w.heap.size w w11) := HB10.out.trans (hb11.mono (by (try simp) <;> (try omega)))
  clear hb11
  go_wp2_with fail
  refine (eqMessageS_same ar5 ar3 cr5 cr3 rs5 rs3 _ (HY511.out.s) (HS11.out.msgs) (HRS3.out.trans HRS5.out.symm) (msz HRS5.out HLS.out) (mlen HRS5.out HLL.out)).mono ?_
  rintro e w12 ⟨rfl, hb12⟩
  have hz12 := hb12.size
  have HS12 := Lib.hid (HS11.out.below hb12)
  clear HS11
  have HI512 := Lib.hid (HI511.out.below hb12)
  clear HI511
  have HY512 := Lib.hid (HY511.out.below hb12)
  clear HY511
  have q12_0_0 : w12.cell? ⟨w.heap.size, 0, none⟩ = some (.int .i64 N.id) := by
    rw [hb12.cell (p := ⟨w.heap.size, 0, none⟩) (show w.heap.size < _ by (try simp) <;> (try omega))]
    exact q11_0_0
  have q12_0_1 : w12.cell? ⟨w.heap.size, 1, none⟩ = some (.int .i64 N.nodes) := by
    rw [hb12.cell (p := ⟨w.heap.size, 1, none⟩) (show w.heap.size < _ by (try simp) <;> (try omega))]
    exact q11_0_1
  have q12_0_2 : w12.cell? ⟨w.heap.size, 2, none⟩ = some (.int .i64 N.term) := by
    rw [hb12.cell (p := ⟨w.heap.size, 2, none⟩) (show w.heap.size < _ by (try simp) <;> (try omega))]
    exact q11_0_2
  have q12_0_3 : w12.cell? ⟨w.heap.size, 3, none⟩ = some (.int .i64 N.vote) := by
    rw [hb12.cell (p := ⟨w.heap.size, 3, none⟩) (show w.heap.size < _ by (try simp) <;> (try omega))]
    exact q11_0_3
  have q12_0_4 : w12.cell? ⟨w.heap.size, 4, none⟩ = some (.int .i64 N.role) := by
    rw [hb12.cell (p := ⟨w.heap.size, 4, none⟩) (show w.heap.size < _ by (try simp) <;> (try omega))]
    exact q11_0_4
  have q12_0_5 : w12.cell? ⟨w.heap.size, 5, none⟩ = some (.bool N.up) := by
    rw [hb12.cell (p := ⟨w.heap.size, 5, none⟩) (show w.heap.size < _ by (try simp) <;> (try omega))]
    exact q11_0_5
  have q12_0_6 : w12.cell? ⟨w.heap.size, 6, none⟩ = some (.slice al N.log.length cl) := by
    rw [hb12.cell (p := ⟨w.heap.size, 6, none⟩) (show w.heap.size < _ by (try simp) <;> (try omega))]
    exact q11_0_6
  have q12_0_7 : w12.cell? ⟨w.heap.size, 7, none⟩ = some (.int .i64 N.commit) := by
    rw [hb12.cell (p := ⟨w.heap.size, 7, none⟩) (show w.heap.size < _ by (try simp) <;> (try omega))]
    exact q11_0_7
  have q12_0_8 : w12.cell? ⟨w.heap.size, 8, none⟩ = some (.int .i64 N.elapsed) := by
    rw [hb12.cell (p := ⟨w.heap.size, 8, none⟩) (show w.heap.size < _ by (try simp) <;> (try omega))]
    exact q11_0_8
  have q12_0_9 : w12.cell? ⟨w.heap.size, 9, none⟩ = some (.int .i64 N.wait) := by
    rw [hb12.cell (p := ⟨w.heap.size, 9, none⟩) (show w.heap.size < _ by (try simp) <;> (try omega))]
    exact q11_0_9
  have q12_0_10 : w12.cell? ⟨w.heap.size, 10, none⟩ = some (.slice av N.votes.length cv) := by
    rw [hb12.cell (p := ⟨w.heap.size, 10, none⟩) (show w.heap.size < _ by (try simp) <;> (try omega))]
    exact q11_0_10
  have q12_0_11 : w12.cell? ⟨w.heap.size, 11, none⟩ = some (.slice an N.next.length cn) := by
    rw [hb12.cell (p := ⟨w.heap.size, 11, none⟩) (show w.heap.size < _ by (try simp) <;> (try omega))]
    exact q11_0_11
  have q12_0_12 : w12.cell? ⟨w.heap.size, 12, none⟩ = some (.slice am N.mtch.length cm) := by
    rw [hb12.cell (p := ⟨w.heap.size, 12, none⟩) (show w.heap.size < _ by (try simp) <;> (try omega))]
    exact q11_0_12
  have hl12_0 : w.heap.size < w12.heap.size := by omega
  clear q11_0_0 q11_0_1 q11_0_2 q11_0_3 q11_0_4 q11_0_5 q11_0_6 q11_0_7 q11_0_8 q11_0_9 q11_0_10 q11_0_11 q11_0_12
  have q12_1_0 : w12.cell? ⟨w3.heap.size, 0, none⟩ = some (.int .i64 M.id) := by
    rw [hb12.cell (p := ⟨w3.heap.size, 0, none⟩) (show w3.heap.size < _ by (try simp) <;> (try omega))]
    exact q11_1_0
  have q12_1_1 : w12.cell? ⟨w3.heap.size, 1, none⟩ = some (.int .i64 M.nodes) := by
    rw [hb12.cell (p := ⟨w3.heap.size, 1, none⟩) (show w3.heap.size < _ by (try simp) <;> (try omega))]
    exact q11_1_1
  have q12_1_2 : w12.cell? ⟨w3.heap.size, 2, none⟩ = some (.int .i64 M.term) := by
    rw [hb12.cell (p := ⟨w3.heap.size, 2, none⟩) (show w3.heap.size < _ by (try simp) <;> (try omega))]
    exact q11_1_2
  have q12_1_3 : w12.cell? ⟨w3.heap.size, 3, none⟩ = some (.int .i64 M.vote) := by
    rw [hb12.cell (p := ⟨w3.heap.size, 3, none⟩) (show w3.heap.size < _ by (try simp) <;> (try omega))]
    exact q11_1_3
  have q12_1_4 : w12.cell? ⟨w3.heap.size, 4, none⟩ = some (.int .i64 M.role) := by
    rw [hb12.cell (p := ⟨w3.heap.size, 4, none⟩) (show w3.heap.size < _ by (try simp) <;> (try omega))]
    exact q11_1_4
  have q12_1_5 : w12.cell? ⟨w3.heap.size, 5, none⟩ = some (.bool M.up) := by
    rw [hb12.cell (p := ⟨w3.heap.size, 5, none⟩) (show w3.heap.size < _ by (try simp) <;> (try omega))]
    exact q11_1_5
  have q12_1_6 : w12.cell? ⟨w3.heap.size, 6, none⟩ = some (.slice al3 M.log.length cl3) := by
    rw [hb12.cell (p := ⟨w3.heap.size, 6, none⟩) (show w3.heap.size < _ by (try simp) <;> (try omega))]
    exact q11_1_6
  have q12_1_7 : w12.cell? ⟨w3.heap.size, 7, none⟩ = some (.int .i64 M.commit) := by
    rw [hb12.cell (p := ⟨w3.heap.size, 7, none⟩) (show w3.heap.size < _ by (try simp) <;> (try omega))]
    exact q11_1_7
  have q12_1_8 : w12.cell? ⟨w3.heap.size, 8, none⟩ = some (.int .i64 M.elapsed) := by
    rw [hb12.cell (p := ⟨w3.heap.size, 8, none⟩) (show w3.heap.size < _ by (try simp) <;> (try omega))]
    exact q11_1_8
  have q12_1_9 : w12.cell? ⟨w3.heap.size, 9, none⟩ = some (.int .i64 M.wait) := by
    rw [hb12.cell (p := ⟨w3.heap.size, 9, none⟩) (show w3.heap.size < _ by (try simp) <;> (try omega))]
    exact q11_1_9
  have q12_1_10 : w12.cell? ⟨w3.heap.size, 10, none⟩ = some (.slice av3 M.votes.length cv3) := by
    rw [hb12.cell (p := ⟨w3.heap.size, 10, none⟩) (show w3.heap.size < _ by (try simp) <;> (try omega))]
    exact q11_1_10
  have q12_1_11 : w12.cell? ⟨w3.heap.size, 11, none⟩ = some (.slice an3 M.next.length cn3) := by
    rw [hb12.cell (p := ⟨w3.heap.size, 11, none⟩) (show w3.heap.size < _ by (try simp) <;> (try omega))]
    exact q11_1_11
  have q12_1_12 : w12.cell? ⟨w3.heap.size, 12, none⟩ = some (.slice am3 M.mtch.length cm3) := by
    rw [hb12.cell (p := ⟨w3.heap.size, 12, none⟩) (show w3.heap.size < _ by (try simp) <;> (try omega))]
    exact q11_1_12
  have hl12_1 : w3.heap.size < w12.heap.size := by omega
  clear q11_1_0 q11_1_1 q11_1_2 q11_1_3 q11_1_4 q11_1_5 q11_1_6 q11_1_7 q11_1_8 q11_1_9 q11_1_10 q11_1_11 q11_1_12
  have q12_2_0 : w12.cell? ⟨w4.heap.size, 0, none⟩ = some (.int .i64 N.id) := by
    rw [hb12.cell (p := ⟨w4.heap.size, 0, none⟩) (show w4.heap.size < _ by (try simp) <;> (try omega))]
    exact q11_2_0
  have q12_2_1 : w12.cell? ⟨w4.heap.size, 1, none⟩ = some (.int .i64 N.nodes) := by
    rw [hb12.cell (p := ⟨w4.heap.size, 1, none⟩) (show w4.heap.size < _ by (try simp) <;> (try omega))]
    exact q11_2_1
  have q12_2_2 : w12.cell? ⟨w4.heap.size, 2, none⟩ = some (.int .i64 N.term) := by
    rw [hb12.cell (p := ⟨w4.heap.size, 2, none⟩) (show w4.heap.size < _ by (try simp) <;> (try omega))]
    exact q11_2_2
  have q12_2_3 : w12.cell? ⟨w4.heap.size, 3, none⟩ = some (.int .i64 N.vote) := by
    rw [hb12.cell (p := ⟨w4.heap.size, 3, none⟩) (show w4.heap.size < _ by (try simp) <;> (try omega))]
    exact q11_2_3
  have q12_2_4 : w12.cell? ⟨w4.heap.size, 4, none⟩ = some (.int .i64 N.role) := by
    rw [hb12.cell (p := ⟨w4.heap.size, 4, none⟩) (show w4.heap.size < _ by (try simp) <;> (try omega))]
    exact q11_2_4
  have q12_2_5 : w12.cell? ⟨w4.heap.size, 5, none⟩ = some (.bool N.up) := by
    rw [hb12.cell (p := ⟨w4.heap.size, 5, none⟩) (show w4.heap.size < _ by (try simp) <;> (try omega))]
    exact q11_2_5
  have q12_2_6 : w12.cell? ⟨w4.heap.size, 6, none⟩ = some (.slice al4 N.log.length cl4) := by
    rw [hb12.cell (p := ⟨w4.heap.size, 6, none⟩) (show w4.heap.size < _ by (try simp) <;> (try omega))]
    exact q11_2_6
  have q12_2_7 : w12.cell? ⟨w4.heap.size, 7, none⟩ = some (.int .i64 N.commit) := by
    rw [hb12.cell (p := ⟨w4.heap.size, 7, none⟩) (show w4.heap.size < _ by (try simp) <;> (try omega))]
    exact q11_2_7
  have q12_2_8 : w12.cell? ⟨w4.heap.size, 8, none⟩ = some (.int .i64 N.elapsed) := by
    rw [hb12.cell (p := ⟨w4.heap.size, 8, none⟩) (show w4.heap.size < _ by (try simp) <;> (try omega))]
    exact q11_2_8
  have q12_2_9 : w12.cell? ⟨w4.heap.size, 9, none⟩ = some (.int .i64 N.wait) := by
    rw [hb12.cell (p := ⟨w4.heap.size, 9, none⟩) (show w4.heap.size < _ by (try simp) <;> (try omega))]
    exact q11_2_9
  have q12_2_10 : w12.cell? ⟨w4.heap.size, 10, none⟩ = some (.slice av4 N.votes.length cv4) := by
    rw [hb12.cell (p := ⟨w4.heap.size, 10, none⟩) (show w4.heap.size < _ by (try simp) <;> (try omega))]
    exact q11_2_10
  have q12_2_11 : w12.cell? ⟨w4.heap.size, 11, none⟩ = some (.slice an4 N.next.length cn4) := by
    rw [hb12.cell (p := ⟨w4.heap.size, 11, none⟩) (show w4.heap.size < _ by (try simp) <;> (try omega))]
    exact q11_2_11
  have q12_2_12 : w12.cell? ⟨w4.heap.size, 12, none⟩ = some (.slice am4 N.mtch.length cm4) := by
    rw [hb12.cell (p := ⟨w4.heap.size, 12, none⟩) (show w4.heap.size < _ by (try simp) <;> (try omega))]
    exact q11_2_12
  have hl12_2 : w4.heap.size < w12.heap.size := by omega
  clear q11_2_0 q11_2_1 q11_2_2 q11_2_3 q11_2_4 q11_2_5 q11_2_6 q11_2_7 q11_2_8 q11_2_9 q11_2_10 q11_2_11 q11_2_12
  have q12_3_0 : w12.cell? ⟨w5.heap.size, 0, none⟩ = some (.int .i64 M.id) := by
    rw [hb12.cell (p := ⟨w5.heap.size, 0, none⟩) (show w5.heap.size < _ by (try simp) <;> (try omega))]
    exact q11_3_0
  have q12_3_1 : w12.cell? ⟨w5.heap.size, 1, none⟩ = some (.int .i64 M.nodes) := by
    rw [hb12.cell (p := ⟨w5.heap.size, 1, none⟩) (show w5.heap.size < _ by (try simp) <;> (try omega))]
    exact q11_3_1
  have q12_3_2 : w12.cell? ⟨w5.heap.size, 2, none⟩ = some (.int .i64 M.term) := by
    rw [hb12.cell (p := ⟨w5.heap.size, 2, none⟩) (show w5.heap.size < _ by (try simp) <;> (try omega))]
    exact q11_3_2
  have q12_3_3 : w12.cell? ⟨w5.heap.size, 3, none⟩ = some (.int .i64 M.vote) := by
    rw [hb12.cell (p := ⟨w5.heap.size, 3, none⟩) (show w5.heap.size < _ by (try simp) <;> (try omega))]
    exact q11_3_3
  have q12_3_4 : w12.cell? ⟨w5.heap.size, 4, none⟩ = some (.int .i64 M.role) := by
    rw [hb12.cell (p := ⟨w5.heap.size, 4, none⟩) (show w5.heap.size < _ by (try simp) <;> (try omega))]
    exact q11_3_4
  have q12_3_5 : w12.cell? ⟨w5.heap.size, 5, none⟩ = some (.bool M.up) := by
    rw [hb12.cell (p := ⟨w5.heap.size, 5, none⟩) (show w5.heap.size < _ by (try simp) <;> (try omega))]
    exact q11_3_5
  have q12_3_6 : w12.cell? ⟨w5.heap.size, 6, none⟩ = some (.slice al5 M.log.length cl5) := by
    rw [hb12.cell (p := ⟨w5.heap.size, 6, none⟩) (show w5.heap.size < _ by (try simp) <;> (try omega))]
    exact q11_3_6
  have q12_3_7 : w12.cell? ⟨w5.heap.size, 7, none⟩ = some (.int .i64 M.commit) := by
    rw [hb12.cell (p := ⟨w5.heap.size, 7, none⟩) (show w5.heap.size < _ by (try simp) <;> (try omega))]
    exact q11_3_7
  have q12_3_8 : w12.cell? ⟨w5.heap.size, 8, none⟩ = some (.int .i64 M.elapsed) := by
    rw [hb12.cell (p := ⟨w5.heap.size, 8, none⟩) (show w5.heap.size < _ by (try simp) <;> (try omega))]
    exact q11_3_8
  have q12_3_9 : w12.cell? ⟨w5.heap.size, 9, none⟩ = some (.int .i64 M.wait) := by
    rw [hb12.cell (p := ⟨w5.heap.size, 9, none⟩) (show w5.heap.size < _ by (try simp) <;> (try omega))]
    exact q11_3_9
  have q12_3_10 : w12.cell? ⟨w5.heap.size, 10, none⟩ = some (.slice av5 M.votes.length cv5) := by
    rw [hb12.cell (p := ⟨w5.heap.size, 10, none⟩) (show w5.heap.size < _ by (try simp) <;> (try omega))]
    exact q11_3_10
  have q12_3_11 : w12.cell? ⟨w5.heap.size, 11, none⟩ = some (.slice an5 M.next.length cn5) := by
    rw [hb12.cell (p := ⟨w5.heap.size, 11, none⟩) (show w5.heap.size < _ by (try simp) <;> (try omega))]
    exact q11_3_11
  have q12_3_12 : w12.cell? ⟨w5.heap.size, 12, none⟩ = some (.slice am5 M.mtch.length cm5) := by
    rw [hb12.cell (p := ⟨w5.heap.size, 12, none⟩) (show w5.heap.size < _ by (try simp) <;> (try omega))]
    exact q11_3_12
  have hl12_3 : w5.heap.size < w12.heap.size := by omega
  clear q11_3_0 q11_3_1 q11_3_2 q11_3_3 q11_3_4 q11_3_5 q11_3_6 q11_3_7 q11_3_8 q11_3_9 q11_3_10 q11_3_11 q11_3_12
  have HB12 : Hid (Below w.heap.size w w12) := HB11.out.trans (hb12.mono (by (try simp) <;> (try omega)))
  clear hb12
  go_wp2_with fail
  refine (markNodeX_c al5 cl5 av5 cv5 an5 cn5 am5 cm5 M 1 (w4.heap.size + 1) (md5) _ HI512.out (by omega) HMK2.out).mono ?_
  rw [HK1.out]
  rintro e w13 ⟨rfl, hk13, hb13⟩
  have hz13 := hb13.size
  have HK_13 := Lib.hid hk13
  clear hk13
  have HS13 := Lib.hid (HS12.out.mid hb13 (by omega))
  clear HS12
  have HY513 := Lib.hid (HY512.out.mid hb13 (by omega))
  clear HY512
  have q13_0_0 : w13.cell? ⟨w.heap.size, 0, none⟩ = some (.int .i64 N.id) := by
    rw [hb13.cell (p := ⟨w.heap.size, 0, none⟩) (show w.heap.size < _ by (try simp) <;> (try omega)) (by show w.heap.size < _ ∨ _ ≤ w.heap.size; omega)]
    exact q12_0_0
  have q13_0_1 : w13.cell? ⟨w.heap.size, 1, none⟩ = some (.int .i64 N.nodes) := by
    rw [hb13.cell (p := ⟨w.heap.size, 1, none⟩) (show w.heap.size < _ by (try simp) <;> (try omega)) (by show w.heap.size < _ ∨ _ ≤ w.heap.size; omega)]
    exact q12_0_1
  have q13_0_2 : w13.cell? ⟨w.heap.size, 2, none⟩ = some (.int .i64 N.term) := by
    rw [hb13.cell (p := ⟨w.heap.size, 2, none⟩) (show w.heap.size < _ by (try simp) <;> (try omega)) (by show w.heap.size < _ ∨ _ ≤ w.heap.size; omega)]
    exact q12_0_2
  have q13_0_3 : w13.cell? ⟨w.heap.size, 3, none⟩ = some (.int .i64 N.vote) := by
    rw [hb13.cell (p := ⟨w.heap.size, 3, none⟩) (show w.heap.size < _ by (try simp) <;> (try omega)) (by show w.heap.size < _ ∨ _ ≤ w.heap.size; omega)]
    exact q12_0_3
  have q13_0_4 : w13.cell? ⟨w.heap.size, 4, none⟩ = some (.int .i64 N.role) := by
    rw [hb13.cell (p := ⟨w.heap.size, 4, none⟩) (show w.heap.size < _ by (try simp) <;> (try omega)) (by show w.heap.size < _ ∨ _ ≤ w.heap.size; omega)]
    exact q12_0_4
  have q13_0_5 : w13.cell? ⟨w.heap.size, 5, none⟩ = some (.bool N.up) := by
    rw [hb13.cell (p := ⟨w.heap.size, 5, none⟩) (show w.heap.size < _ by (try simp) <;> (try omega)) (by show w.heap.size < _ ∨ _ ≤ w.heap.size; omega)]
    exact q12_0_5
  have q13_0_6 : w13.cell? ⟨w.heap.size, 6, none⟩ = some (.slice al N.log.length cl) := by
    rw [hb13.cell (p := ⟨w.heap.size, 6, none⟩) (show w.heap.size < _ by (try simp) <;> (try omega)) (by show w.heap.size < _ ∨ _ ≤ w.heap.size; omega)]
    exact q12_0_6
  have q13_0_7 : w13.cell? ⟨w.heap.size, 7, none⟩ = some (.int .i64 N.commit) := by
    rw [hb13.cell (p := ⟨w.heap.size, 7, none⟩) (show w.heap.size < _ by (try simp) <;> (try omega)) (by show w.heap.size < _ ∨ _ ≤ w.heap.size; omega)]
    exact q12_0_7
  have q13_0_8 : w13.cell? ⟨w.heap.size, 8, none⟩ = some (.int .i64 N.elapsed) := by
    rw [hb13.cell (p := ⟨w.heap.size, 8, none⟩) (show w.heap.size < _ by (try simp) <;> (try omega)) (by show w.heap.size < _ ∨ _ ≤ w.heap.size; omega)]
    exact q12_0_8
  have q13_0_9 : w13.cell? ⟨w.heap.size, 9, none⟩ = some (.int .i64 N.wait) := by
    rw [hb13.cell (p := ⟨w.heap.size, 9, none⟩) (show w.heap.size < _ by (try simp) <;> (try omega)) (by show w.heap.size < _ ∨ _ ≤ w.heap.size; omega)]
    exact q12_0_9
  have q13_0_10 : w13.cell? ⟨w.heap.size, 10, none⟩ = some (.slice av N.votes.length cv) := by
    rw [hb13.cell (p := ⟨w.heap.size, 10, none⟩) (show w.heap.size < _ by (try simp) <;> (try omega)) (by show w.heap.size < _ ∨ _ ≤ w.heap.size; omega)]
    exact q12_0_10
  have q13_0_11 : w13.cell? ⟨w.heap.size, 11, none⟩ = some (.slice an N.next.length cn) := by
    rw [hb13.cell (p := ⟨w.heap.size, 11, none⟩) (show w.heap.size < _ by (try simp) <;> (try omega)) (by show w.heap.size < _ ∨ _ ≤ w.heap.size; omega)]
    exact q12_0_11
  have q13_0_12 : w13.cell? ⟨w.heap.size, 12, none⟩ = some (.slice am N.mtch.length cm) := by
    rw [hb13.cell (p := ⟨w.heap.size, 12, none⟩) (show w.heap.size < _ by (try simp) <;> (try omega)) (by show w.heap.size < _ ∨ _ ≤ w.heap.size; omega)]
    exact q12_0_12
  have hl13_0 : w.heap.size < w13.heap.size := by omega
  clear q12_0_0 q12_0_1 q12_0_2 q12_0_3 q12_0_4 q12_0_5 q12_0_6 q12_0_7 q12_0_8 q12_0_9 q12_0_10 q12_0_11 q12_0_12
  have q13_1_0 : w13.cell? ⟨w3.heap.size, 0, none⟩ = some (.int .i64 M.id) := by
    rw [hb13.cell (p := ⟨w3.heap.size, 0, none⟩) (show w3.heap.size < _ by (try simp) <;> (try omega)) (by show w3.heap.size < _ ∨ _ ≤ w3.heap.size; omega)]
    exact q12_1_0
  have q13_1_1 : w13.cell? ⟨w3.heap.size, 1, none⟩ = some (.int .i64 M.nodes) := by
    rw [hb13.cell (p := ⟨w3.heap.size, 1, none⟩) (show w3.heap.size < _ by (try simp) <;> (try omega)) (by show w3.heap.size < _ ∨ _ ≤ w3.heap.size; omega)]
    exact q12_1_1
  have q13_1_2 : w13.cell? ⟨w3.heap.size, 2, none⟩ = some (.int .i64 M.term) := by
    rw [hb13.cell (p := ⟨w3.heap.size, 2, none⟩) (show w3.heap.size < _ by (try simp) <;> (try omega)) (by show w3.heap.size < _ ∨ _ ≤ w3.heap.size; omega)]
    exact q12_1_2
  have q13_1_3 : w13.cell? ⟨w3.heap.size, 3, none⟩ = some (.int .i64 M.vote) := by
    rw [hb13.cell (p := ⟨w3.heap.size, 3, none⟩) (show w3.heap.size < _ by (try simp) <;> (try omega)) (by show w3.heap.size < _ ∨ _ ≤ w3.heap.size; omega)]
    exact q12_1_3
  have q13_1_4 : w13.cell? ⟨w3.heap.size, 4, none⟩ = some (.int .i64 M.role) := by
    rw [hb13.cell (p := ⟨w3.heap.size, 4, none⟩) (show w3.heap.size < _ by (try simp) <;> (try omega)) (by show w3.heap.size < _ ∨ _ ≤ w3.heap.size; omega)]
    exact q12_1_4
  have q13_1_5 : w13.cell? ⟨w3.heap.size, 5, none⟩ = some (.bool M.up) := by
    rw [hb13.cell (p := ⟨w3.heap.size, 5, none⟩) (show w3.heap.size < _ by (try simp) <;> (try omega)) (by show w3.heap.size < _ ∨ _ ≤ w3.heap.size; omega)]
    exact q12_1_5
  have q13_1_6 : w13.cell? ⟨w3.heap.size, 6, none⟩ = some (.slice al3 M.log.length cl3) := by
    rw [hb13.cell (p := ⟨w3.heap.size, 6, none⟩) (show w3.heap.size < _ by (try simp) <;> (try omega)) (by show w3.heap.size < _ ∨ _ ≤ w3.heap.size; omega)]
    exact q12_1_6
  have q13_1_7 : w13.cell? ⟨w3.heap.size, 7, none⟩ = some (.int .i64 M.commit) := by
    rw [hb13.cell (p := ⟨w3.heap.size, 7, none⟩) (show w3.heap.size < _ by (try simp) <;> (try omega)) (by show w3.heap.size < _ ∨ _ ≤ w3.heap.size; omega)]
    exact q12_1_7
  have q13_1_8 : w13.cell? ⟨w3.heap.size, 8, none⟩ = some (.int .i64 M.elapsed) := by
    rw [hb13.cell (p := ⟨w3.heap.size, 8, none⟩) (show w3.heap.size < _ by (try simp) <;> (try omega)) (by show w3.heap.size < _ ∨ _ ≤ w3.heap.size; omega)]
    exact q12_1_8
  have q13_1_9 : w13.cell? ⟨w3.heap.size, 9, none⟩ = some (.int .i64 M.wait) := by
    rw [hb13.cell (p := ⟨w3.heap.size, 9, none⟩) (show w3.heap.size < _ by (try simp) <;> (try omega)) (by show w3.heap.size < _ ∨ _ ≤ w3.heap.size; omega)]
    exact q12_1_9
  have q13_1_10 : w13.cell? ⟨w3.heap.size, 10, none⟩ = some (.slice av3 M.votes.length cv3) := by
    rw [hb13.cell (p := ⟨w3.heap.size, 10, none⟩) (show w3.heap.size < _ by (try simp) <;> (try omega)) (by show w3.heap.size < _ ∨ _ ≤ w3.heap.size; omega)]
    exact q12_1_10
  have q13_1_11 : w13.cell? ⟨w3.heap.size, 11, none⟩ = some (.slice an3 M.next.length cn3) := by
    rw [hb13.cell (p := ⟨w3.heap.size, 11, none⟩) (show w3.heap.size < _ by (try simp) <;> (try omega)) (by show w3.heap.size < _ ∨ _ ≤ w3.heap.size; omega)]
    exact q12_1_11
  have q13_1_12 : w13.cell? ⟨w3.heap.size, 12, none⟩ = some (.slice am3 M.mtch.length cm3) := by
    rw [hb13.cell (p := ⟨w3.heap.size, 12, none⟩) (show w3.heap.size < _ by (try simp) <;> (try omega)) (by show w3.heap.size < _ ∨ _ ≤ w3.heap.size; omega)]
    exact q12_1_12
  have hl13_1 : w3.heap.size < w13.heap.size := by omega
  clear q12_1_0 q12_1_1 q12_1_2 q12_1_3 q12_1_4 q12_1_5 q12_1_6 q12_1_7 q12_1_8 q12_1_9 q12_1_10 q12_1_11 q12_1_12
  have q13_2_0 : w13.cell? ⟨w4.heap.size, 0, none⟩ = some (.int .i64 N.id) := by
    rw [hb13.cell (p := ⟨w4.heap.size, 0, none⟩) (show w4.heap.size < _ by (try simp) <;> (try omega)) (by show w4.heap.size < _ ∨ _ ≤ w4.heap.size; omega)]
    exact q12_2_0
  have q13_2_1 : w13.cell? ⟨w4.heap.size, 1, none⟩ = some (.int .i64 N.nodes) := by
    rw [hb13.cell (p := ⟨w4.heap.size, 1, none⟩) (show w4.heap.size < _ by (try simp) <;> (try omega)) (by show w4.heap.size < _ ∨ _ ≤ w4.heap.size; omega)]
    exact q12_2_1
  have q13_2_2 : w13.cell? ⟨w4.heap.size, 2, none⟩ = some (.int .i64 N.term) := by
    rw [hb13.cell (p := ⟨w4.heap.size, 2, none⟩) (show w4.heap.size < _ by (try simp) <;> (try omega)) (by show w4.heap.size < _ ∨ _ ≤ w4.heap.size; omega)]
    exact q12_2_2
  have q13_2_3 : w13.cell? ⟨w4.heap.size, 3, none⟩ = some (.int .i64 N.vote) := by
    rw [hb13.cell (p := ⟨w4.heap.size, 3, none⟩) (show w4.heap.size < _ by (try simp) <;> (try omega)) (by show w4.heap.size < _ ∨ _ ≤ w4.heap.size; omega)]
    exact q12_2_3
  have q13_2_4 : w13.cell? ⟨w4.heap.size, 4, none⟩ = some (.int .i64 N.role) := by
    rw [hb13.cell (p := ⟨w4.heap.size, 4, none⟩) (show w4.heap.size < _ by (try simp) <;> (try omega)) (by show w4.heap.size < _ ∨ _ ≤ w4.heap.size; omega)]
    exact q12_2_4
  have q13_2_5 : w13.cell? ⟨w4.heap.size, 5, none⟩ = some (.bool N.up) := by
    rw [hb13.cell (p := ⟨w4.heap.size, 5, none⟩) (show w4.heap.size < _ by (try simp) <;> (try omega)) (by show w4.heap.size < _ ∨ _ ≤ w4.heap.size; omega)]
    exact q12_2_5
  have q13_2_6 : w13.cell? ⟨w4.heap.size, 6, none⟩ = some (.slice al4 N.log.length cl4) := by
    rw [hb13.cell (p := ⟨w4.heap.size, 6, none⟩) (show w4.heap.size < _ by (try simp) <;> (try omega)) (by show w4.heap.size < _ ∨ _ ≤ w4.heap.size; omega)]
    exact q12_2_6
  have q13_2_7 : w13.cell? ⟨w4.heap.size, 7, none⟩ = some (.int .i64 N.commit) := by
    rw [hb13.cell (p := ⟨w4.heap.size, 7, none⟩) (show w4.heap.size < _ by (try simp) <;> (try omega)) (by show w4.heap.size < _ ∨ _ ≤ w4.heap.size; omega)]
    exact q12_2_7
  have q13_2_8 : w13.cell? ⟨w4.heap.size, 8, none⟩ = some (.int .i64 N.elapsed) := by
    rw [hb13.cell (p := ⟨w4.heap.size, 8, none⟩) (show w4.heap.size < _ by (try simp) <;> (try omega)) (by show w4.heap.size < _ ∨ _ ≤ w4.heap.size; omega)]
    exact q12_2_8
  have q13_2_9 : w13.cell? ⟨w4.heap.size, 9, none⟩ = some (.int .i64 N.wait) := by
    rw [hb13.cell (p := ⟨w4.heap.size, 9, none⟩) (show w4.heap.size < _ by (try simp) <;> (try omega)) (by show w4.heap.size < _ ∨ _ ≤ w4.heap.size; omega)]
    exact q12_2_9
  have q13_2_10 : w13.cell? ⟨w4.heap.size, 10, none⟩ = some (.slice av4 N.votes.length cv4) := by
    rw [hb13.cell (p := ⟨w4.heap.size, 10, none⟩) (show w4.heap.size < _ by (try simp) <;> (try omega)) (by show w4.heap.size < _ ∨ _ ≤ w4.heap.size; omega)]
    exact q12_2_10
  have q13_2_11 : w13.cell? ⟨w4.heap.size, 11, none⟩ = some (.slice an4 N.next.length cn4) := by
    rw [hb13.cell (p := ⟨w4.heap.size, 11, none⟩) (show w4.heap.size < _ by (try simp) <;> (try omega)) (by show w4.heap.size < _ ∨ _ ≤ w4.heap.size; omega)]
    exact q12_2_11
  have q13_2_12 : w13.cell? ⟨w4.heap.size, 12, none⟩ = some (.slice am4 N.mtch.length cm4) := by
    rw [hb13.cell (p := ⟨w4.heap.size, 12, none⟩) (show w4.heap.size < _ by (try simp) <;> (try omega)) (by show w4.heap.size < _ ∨ _ ≤ w4.heap.size; omega)]
    exact q12_2_12
  have hl13_2 : w4.heap.size < w13.heap.size := by omega
  clear q12_2_0 q12_2_1 q12_2_2 q12_2_3 q12_2_4 q12_2_5 q12_2_6 q12_2_7 q12_2_8 q12_2_9 q12_2_10 q12_2_11 q12_2_12
  have q13_3_0 : w13.cell? ⟨w5.heap.size, 0, none⟩ = some (.int .i64 M.id) := by
    rw [hb13.cell (p := ⟨w5.heap.size, 0, none⟩) (show w5.heap.size < _ by (try simp) <;> (try omega)) (by show w5.heap.size < _ ∨ _ ≤ w5.heap.size; omega)]
    exact q12_3_0
  have q13_3_1 : w13.cell? ⟨w5.heap.size, 1, none⟩ = some (.int .i64 M.nodes) := by
    rw [hb13.cell (p := ⟨w5.heap.size, 1, none⟩) (show w5.heap.size < _ by (try simp) <;> (try omega)) (by show w5.heap.size < _ ∨ _ ≤ w5.heap.size; omega)]
    exact q12_3_1
  have q13_3_2 : w13.cell? ⟨w5.heap.size, 2, none⟩ = some (.int .i64 M.term) := by
    rw [hb13.cell (p := ⟨w5.heap.size, 2, none⟩) (show w5.heap.size < _ by (try simp) <;> (try omega)) (by show w5.heap.size < _ ∨ _ ≤ w5.heap.size; omega)]
    exact q12_3_2
  have q13_3_3 : w13.cell? ⟨w5.heap.size, 3, none⟩ = some (.int .i64 M.vote) := by
    rw [hb13.cell (p := ⟨w5.heap.size, 3, none⟩) (show w5.heap.size < _ by (try simp) <;> (try omega)) (by show w5.heap.size < _ ∨ _ ≤ w5.heap.size; omega)]
    exact q12_3_3
  have q13_3_4 : w13.cell? ⟨w5.heap.size, 4, none⟩ = some (.int .i64 M.role) := by
    rw [hb13.cell (p := ⟨w5.heap.size, 4, none⟩) (show w5.heap.size < _ by (try simp) <;> (try omega)) (by show w5.heap.size < _ ∨ _ ≤ w5.heap.size; omega)]
    exact q12_3_4
  have q13_3_5 : w13.cell? ⟨w5.heap.size, 5, none⟩ = some (.bool M.up) := by
    rw [hb13.cell (p := ⟨w5.heap.size, 5, none⟩) (show w5.heap.size < _ by (try simp) <;> (try omega)) (by show w5.heap.size < _ ∨ _ ≤ w5.heap.size; omega)]
    exact q12_3_5
  have q13_3_6 : w13.cell? ⟨w5.heap.size, 6, none⟩ = some (.slice al5 M.log.length cl5) := by
    rw [hb13.cell (p := ⟨w5.heap.size, 6, none⟩) (show w5.heap.size < _ by (try simp) <;> (try omega)) (by show w5.heap.size < _ ∨ _ ≤ w5.heap.size; omega)]
    exact q12_3_6
  have q13_3_7 : w13.cell? ⟨w5.heap.size, 7, none⟩ = some (.int .i64 M.commit) := by
    rw [hb13.cell (p := ⟨w5.heap.size, 7, none⟩) (show w5.heap.size < _ by (try simp) <;> (try omega)) (by show w5.heap.size < _ ∨ _ ≤ w5.heap.size; omega)]
    exact q12_3_7
  have q13_3_8 : w13.cell? ⟨w5.heap.size, 8, none⟩ = some (.int .i64 M.elapsed) := by
    rw [hb13.cell (p := ⟨w5.heap.size, 8, none⟩) (show w5.heap.size < _ by (try simp) <;> (try omega)) (by show w5.heap.size < _ ∨ _ ≤ w5.heap.size; omega)]
    exact q12_3_8
  have q13_3_9 : w13.cell? ⟨w5.heap.size, 9, none⟩ = some (.int .i64 M.wait) := by
    rw [hb13.cell (p := ⟨w5.heap.size, 9, none⟩) (show w5.heap.size < _ by (try simp) <;> (try omega)) (by show w5.heap.size < _ ∨ _ ≤ w5.heap.size; omega)]
    exact q12_3_9
  have q13_3_10 : w13.cell? ⟨w5.heap.size, 10, none⟩ = some (.slice av5 M.votes.length cv5) := by
    rw [hb13.cell (p := ⟨w5.heap.size, 10, none⟩) (show w5.heap.size < _ by (try simp) <;> (try omega)) (by show w5.heap.size < _ ∨ _ ≤ w5.heap.size; omega)]
    exact q12_3_10
  have q13_3_11 : w13.cell? ⟨w5.heap.size, 11, none⟩ = some (.slice an5 M.next.length cn5) := by
    rw [hb13.cell (p := ⟨w5.heap.size, 11, none⟩) (show w5.heap.size < _ by (try simp) <;> (try omega)) (by show w5.heap.size < _ ∨ _ ≤ w5.heap.size; omega)]
    exact q12_3_11
  have q13_3_12 : w13.cell? ⟨w5.heap.size, 12, none⟩ = some (.slice am5 M.mtch.length cm5) := by
    rw [hb13.cell (p := ⟨w5.heap.size, 12, none⟩) (show w5.heap.size < _ by (try simp) <;> (try omega)) (by show w5.heap.size < _ ∨ _ ≤ w5.heap.size; omega)]
    exact q12_3_12
  have hl13_3 : w5.heap.size < w13.heap.size := by omega
  clear q12_3_0 q12_3_1 q12_3_2 q12_3_3 q12_3_4 q12_3_5 q12_3_6 q12_3_7 q12_3_8 q12_3_9 q12_3_10 q12_3_11 q12_3_12
  have HB13 : Hid (Below w.heap.size w w13) := HB12.out.trans (hb13.below (by omega) (by (try simp) <;> (try omega)))
  clear hb13
  clear HI512
  obtain ⟨K2, hK2⟩ : ∃ K, messageNum K1 rs5 = K := ⟨_, rfl⟩
  have HK2 := Lib.hid hK2
  have hk2b : messageNum K1 rs5 ≤ 17592186044416 := mbd HK1b.out HRS5.out HLS.out HLL.out
  have HK2b := Lib.hid hk2b
  have g2 : decide ((K2 : Int) < 0) = false := decide_eq_false (by omega)
  clear hK2 hk2b
  go_wp2_with fail
  refine (markMsgPE_c (md5) (w5.heap.size) cr5 K1 ar5 rs5 _ HY513.out HK2b.out).mono ?_
  rw [HK2.out]
  rintro e w14 ⟨rfl, hk14, hb14⟩
  have hz14 := hb14.size
  have HJ_14 := Lib.hid hk14
  clear hk14
  have HS14 := Lib.hid (HS13.out.mid hb14 (by omega))
  clear HS13
  have HK14 := Lib.hid (HK_13.out.mid hb14 (by omega))
  clear HK_13
  have q14_0_0 : w14.cell? ⟨w.heap.size, 0, none⟩ = some (.int .i64 N.id) := by
    rw [hb14.cell (p := ⟨w.heap.size, 0, none⟩) (show w.heap.size < _ by (try simp) <;> (try omega)) (by show w.heap.size < _ ∨ _ ≤ w.heap.size; omega)]
    exact q13_0_0
  have q14_0_1 : w14.cell? ⟨w.heap.size, 1, none⟩ = some (.int .i64 N.nodes) := by
    rw [hb14.cell (p := ⟨w.heap.size, 1, none⟩) (show w.heap.size < _ by (try simp) <;> (try omega)) (by show w.heap.size < _ ∨ _ ≤ w.heap.size; omega)]
    exact q13_0_1
  have q14_0_2 : w14.cell? ⟨w.heap.size, 2, none⟩ = some (.int .i64 N.term) := by
    rw [hb14.cell (p := ⟨w.heap.size, 2, none⟩) (show w.heap.size < _ by (try simp) <;> (try omega)) (by show w.heap.size < _ ∨ _ ≤ w.heap.size; omega)]
    exact q13_0_2
  have q14_0_3 : w14.cell? ⟨w.heap.size, 3, none⟩ = some (.int .i64 N.vote) := by
    rw [hb14.cell (p := ⟨w.heap.size, 3, none⟩) (show w.heap.size < _ by (try simp) <;> (try omega)) (by show w.heap.size < _ ∨ _ ≤ w.heap.size; omega)]
    exact q13_0_3
  have q14_0_4 : w14.cell? ⟨w.heap.size, 4, none⟩ = some (.int .i64 N.role) := by
    rw [hb14.cell (p := ⟨w.heap.size, 4, none⟩) (show w.heap.size < _ by (try simp) <;> (try omega)) (by show w.heap.size < _ ∨ _ ≤ w.heap.size; omega)]
    exact q13_0_4
  have q14_0_5 : w14.cell? ⟨w.heap.size, 5, none⟩ = some (.bool N.up) := by
    rw [hb14.cell (p := ⟨w.heap.size, 5, none⟩) (show w.heap.size < _ by (try simp) <;> (try omega)) (by show w.heap.size < _ ∨ _ ≤ w.heap.size; omega)]
    exact q13_0_5
  have q14_0_6 : w14.cell? ⟨w.heap.size, 6, none⟩ = some (.slice al N.log.length cl) := by
    rw [hb14.cell (p := ⟨w.heap.size, 6, none⟩) (show w.heap.size < _ by (try simp) <;> (try omega)) (by show w.heap.size < _ ∨ _ ≤ w.heap.size; omega)]
    exact q13_0_6
  have q14_0_7 : w14.cell? ⟨w.heap.size, 7, none⟩ = some (.int .i64 N.commit) := by
    rw [hb14.cell (p := ⟨w.heap.size, 7, none⟩) (show w.heap.size < _ by (try simp) <;> (try omega)) (by show w.heap.size < _ ∨ _ ≤ w.heap.size; omega)]
    exact q13_0_7
  have q14_0_8 : w14.cell? ⟨w.heap.size, 8, none⟩ = some (.int .i64 N.elapsed) := by
    rw [hb14.cell (p := ⟨w.heap.size, 8, none⟩) (show w.heap.size < _ by (try simp) <;> (try omega)) (by show w.heap.size < _ ∨ _ ≤ w.heap.size; omega)]
    exact q13_0_8
  have q14_0_9 : w14.cell? ⟨w.heap.size, 9, none⟩ = some (.int .i64 N.wait) := by
    rw [hb14.cell (p := ⟨w.heap.size, 9, none⟩) (show w.heap.size < _ by (try simp) <;> (try omega)) (by show w.heap.size < _ ∨ _ ≤ w.heap.size; omega)]
    exact q13_0_9
  have q14_0_10 : w14.cell? ⟨w.heap.size, 10, none⟩ = some (.slice av N.votes.length cv) := by
    rw [hb14.cell (p := ⟨w.heap.size, 10, none⟩) (show w.heap.size < _ by (try simp) <;> (try omega)) (by show w.heap.size < _ ∨ _ ≤ w.heap.size; omega)]
    exact q13_0_10
  have q14_0_11 : w14.cell? ⟨w.heap.size, 11, none⟩ = some (.slice an N.next.length cn) := by
    rw [hb14.cell (p := ⟨w.heap.size, 11, none⟩) (show w.heap.size < _ by (try simp) <;> (try omega)) (by show w.heap.size < _ ∨ _ ≤ w.heap.size; omega)]
    exact q13_0_11
  have q14_0_12 : w14.cell? ⟨w.heap.size, 12, none⟩ = some (.slice am N.mtch.length cm) := by
    rw [hb14.cell (p := ⟨w.heap.size, 12, none⟩) (show w.heap.size < _ by (try simp) <;> (try omega)) (by show w.heap.size < _ ∨ _ ≤ w.heap.size; omega)]
    exact q13_0_12
  have hl14_0 : w.heap.size < w14.heap.size := by omega
  clear q13_0_0 q13_0_1 q13_0_2 q13_0_3 q13_0_4 q13_0_5 q13_0_6 q13_0_7 q13_0_8 q13_0_9 q13_0_10 q13_0_11 q13_0_12
  have q14_1_0 : w14.cell? ⟨w3.heap.size, 0, none⟩ = some (.int .i64 M.id) := by
    rw [hb14.cell (p := ⟨w3.heap.size, 0, none⟩) (show w3.heap.size < _ by (try simp) <;> (try omega)) (by show w3.heap.size < _ ∨ _ ≤ w3.heap.size; omega)]
    exact q13_1_0
  have q14_1_1 : w14.cell? ⟨w3.heap.size, 1, none⟩ = some (.int .i64 M.nodes) := by
    rw [hb14.cell (p := ⟨w3.heap.size, 1, none⟩) (show w3.heap.size < _ by (try simp) <;> (try omega)) (by show w3.heap.size < _ ∨ _ ≤ w3.heap.size; omega)]
    exact q13_1_1
  have q14_1_2 : w14.cell? ⟨w3.heap.size, 2, none⟩ = some (.int .i64 M.term) := by
    rw [hb14.cell (p := ⟨w3.heap.size, 2, none⟩) (show w3.heap.size < _ by (try simp) <;> (try omega)) (by show w3.heap.size < _ ∨ _ ≤ w3.heap.size; omega)]
    exact q13_1_2
  have q14_1_3 : w14.cell? ⟨w3.heap.size, 3, none⟩ = some (.int .i64 M.vote) := by
    rw [hb14.cell (p := ⟨w3.heap.size, 3, none⟩) (show w3.heap.size < _ by (try simp) <;> (try omega)) (by show w3.heap.size < _ ∨ _ ≤ w3.heap.size; omega)]
    exact q13_1_3
  have q14_1_4 : w14.cell? ⟨w3.heap.size, 4, none⟩ = some (.int .i64 M.role) := by
    rw [hb14.cell (p := ⟨w3.heap.size, 4, none⟩) (show w3.heap.size < _ by (try simp) <;> (try omega)) (by show w3.heap.size < _ ∨ _ ≤ w3.heap.size; omega)]
    exact q13_1_4
  have q14_1_5 : w14.cell? ⟨w3.heap.size, 5, none⟩ = some (.bool M.up) := by
    rw [hb14.cell (p := ⟨w3.heap.size, 5, none⟩) (show w3.heap.size < _ by (try simp) <;> (try omega)) (by show w3.heap.size < _ ∨ _ ≤ w3.heap.size; omega)]
    exact q13_1_5
  have q14_1_6 : w14.cell? ⟨w3.heap.size, 6, none⟩ = some (.slice al3 M.log.length cl3) := by
    rw [hb14.cell (p := ⟨w3.heap.size, 6, none⟩) (show w3.heap.size < _ by (try simp) <;> (try omega)) (by show w3.heap.size < _ ∨ _ ≤ w3.heap.size; omega)]
    exact q13_1_6
  have q14_1_7 : w14.cell? ⟨w3.heap.size, 7, none⟩ = some (.int .i64 M.commit) := by
    rw [hb14.cell (p := ⟨w3.heap.size, 7, none⟩) (show w3.heap.size < _ by (try simp) <;> (try omega)) (by show w3.heap.size < _ ∨ _ ≤ w3.heap.size; omega)]
    exact q13_1_7
  have q14_1_8 : w14.cell? ⟨w3.heap.size, 8, none⟩ = some (.int .i64 M.elapsed) := by
    rw [hb14.cell (p := ⟨w3.heap.size, 8, none⟩) (show w3.heap.size < _ by (try simp) <;> (try omega)) (by show w3.heap.size < _ ∨ _ ≤ w3.heap.size; omega)]
    exact q13_1_8
  have q14_1_9 : w14.cell? ⟨w3.heap.size, 9, none⟩ = some (.int .i64 M.wait) := by
    rw [hb14.cell (p := ⟨w3.heap.size, 9, none⟩) (show w3.heap.size < _ by (try simp) <;> (try omega)) (by show w3.heap.size < _ ∨ _ ≤ w3.heap.size; omega)]
    exact q13_1_9
  have q14_1_10 : w14.cell? ⟨w3.heap.size, 10, none⟩ = some (.slice av3 M.votes.length cv3) := by
    rw [hb14.cell (p := ⟨w3.heap.size, 10, none⟩) (show w3.heap.size < _ by (try simp) <;> (try omega)) (by show w3.heap.size < _ ∨ _ ≤ w3.heap.size; omega)]
    exact q13_1_10
  have q14_1_11 : w14.cell? ⟨w3.heap.size, 11, none⟩ = some (.slice an3 M.next.length cn3) := by
    rw [hb14.cell (p := ⟨w3.heap.size, 11, none⟩) (show w3.heap.size < _ by (try simp) <;> (try omega)) (by show w3.heap.size < _ ∨ _ ≤ w3.heap.size; omega)]
    exact q13_1_11
  have q14_1_12 : w14.cell? ⟨w3.heap.size, 12, none⟩ = some (.slice am3 M.mtch.length cm3) := by
    rw [hb14.cell (p := ⟨w3.heap.size, 12, none⟩) (show w3.heap.size < _ by (try simp) <;> (try omega)) (by show w3.heap.size < _ ∨ _ ≤ w3.heap.size; omega)]
    exact q13_1_12
  have hl14_1 : w3.heap.size < w14.heap.size := by omega
  clear q13_1_0 q13_1_1 q13_1_2 q13_1_3 q13_1_4 q13_1_5 q13_1_6 q13_1_7 q13_1_8 q13_1_9 q13_1_10 q13_1_11 q13_1_12
  have q14_2_0 : w14.cell? ⟨w4.heap.size, 0, none⟩ = some (.int .i64 N.id) := by
    rw [hb14.cell (p := ⟨w4.heap.size, 0, none⟩) (show w4.heap.size < _ by (try simp) <;> (try omega)) (by show w4.heap.size < _ ∨ _ ≤ w4.heap.size; omega)]
    exact q13_2_0
  have q14_2_1 : w14.cell? ⟨w4.heap.size, 1, none⟩ = some (.int .i64 N.nodes) := by
    rw [hb14.cell (p := ⟨w4.heap.size, 1, none⟩) (show w4.heap.size < _ by (try simp) <;> (try omega)) (by show w4.heap.size < _ ∨ _ ≤ w4.heap.size; omega)]
    exact q13_2_1
  have q14_2_2 : w14.cell? ⟨w4.heap.size, 2, none⟩ = some (.int .i64 N.term) := by
    rw [hb14.cell (p := ⟨w4.heap.size, 2, none⟩) (show w4.heap.size < _ by (try simp) <;> (try omega)) (by show w4.heap.size < _ ∨ _ ≤ w4.heap.size; omega)]
    exact q13_2_2
  have q14_2_3 : w14.cell? ⟨w4.heap.size, 3, none⟩ = some (.int .i64 N.vote) := by
    rw [hb14.cell (p := ⟨w4.heap.size, 3, none⟩) (show w4.heap.size < _ by (try simp) <;> (try omega)) (by show w4.heap.size < _ ∨ _ ≤ w4.heap.size; omega)]
    exact q13_2_3
  have q14_2_4 : w14.cell? ⟨w4.heap.size, 4, none⟩ = some (.int .i64 N.role) := by
    rw [hb14.cell (p := ⟨w4.heap.size, 4, none⟩) (show w4.heap.size < _ by (try simp) <;> (try omega)) (by show w4.heap.size < _ ∨ _ ≤ w4.heap.size; omega)]
    exact q13_2_4
  have q14_2_5 : w14.cell? ⟨w4.heap.size, 5, none⟩ = some (.bool N.up) := by
    rw [hb14.cell (p := ⟨w4.heap.size, 5, none⟩) (show w4.heap.size < _ by (try simp) <;> (try omega)) (by show w4.heap.size < _ ∨ _ ≤ w4.heap.size; omega)]
    exact q13_2_5
  have q14_2_6 : w14.cell? ⟨w4.heap.size, 6, none⟩ = some (.slice al4 N.log.length cl4) := by
    rw [hb14.cell (p := ⟨w4.heap.size, 6, none⟩) (show w4.heap.size < _ by (try simp) <;> (try omega)) (by show w4.heap.size < _ ∨ _ ≤ w4.heap.size; omega)]
    exact q13_2_6
  have q14_2_7 : w14.cell? ⟨w4.heap.size, 7, none⟩ = some (.int .i64 N.commit) := by
    rw [hb14.cell (p := ⟨w4.heap.size, 7, none⟩) (show w4.heap.size < _ by (try simp) <;> (try omega)) (by show w4.heap.size < _ ∨ _ ≤ w4.heap.size; omega)]
    exact q13_2_7
  have q14_2_8 : w14.cell? ⟨w4.heap.size, 8, none⟩ = some (.int .i64 N.elapsed) := by
    rw [hb14.cell (p := ⟨w4.heap.size, 8, none⟩) (show w4.heap.size < _ by (try simp) <;> (try omega)) (by show w4.heap.size < _ ∨ _ ≤ w4.heap.size; omega)]
    exact q13_2_8
  have q14_2_9 : w14.cell? ⟨w4.heap.size, 9, none⟩ = some (.int .i64 N.wait) := by
    rw [hb14.cell (p := ⟨w4.heap.size, 9, none⟩) (show w4.heap.size < _ by (try simp) <;> (try omega)) (by show w4.heap.size < _ ∨ _ ≤ w4.heap.size; omega)]
    exact q13_2_9
  have q14_2_10 : w14.cell? ⟨w4.heap.size, 10, none⟩ = some (.slice av4 N.votes.length cv4) := by
    rw [hb14.cell (p := ⟨w4.heap.size, 10, none⟩) (show w4.heap.size < _ by (try simp) <;> (try omega)) (by show w4.heap.size < _ ∨ _ ≤ w4.heap.size; omega)]
    exact q13_2_10
  have q14_2_11 : w14.cell? ⟨w4.heap.size, 11, none⟩ = some (.slice an4 N.next.length cn4) := by
    rw [hb14.cell (p := ⟨w4.heap.size, 11, none⟩) (show w4.heap.size < _ by (try simp) <;> (try omega)) (by show w4.heap.size < _ ∨ _ ≤ w4.heap.size; omega)]
    exact q13_2_11
  have q14_2_12 : w14.cell? ⟨w4.heap.size, 12, none⟩ = some (.slice am4 N.mtch.length cm4) := by
    rw [hb14.cell (p := ⟨w4.heap.size, 12, none⟩) (show w4.heap.size < _ by (try simp) <;> (try omega)) (by show w4.heap.size < _ ∨ _ ≤ w4.heap.size; omega)]
    exact q13_2_12
  have hl14_2 : w4.heap.size < w14.heap.size := by omega
  clear q13_2_0 q13_2_1 q13_2_2 q13_2_3 q13_2_4 q13_2_5 q13_2_6 q13_2_7 q13_2_8 q13_2_9 q13_2_10 q13_2_11 q13_2_12
  have q14_3_0 : w14.cell? ⟨w5.heap.size, 0, none⟩ = some (.int .i64 M.id) := by
    rw [hb14.cell (p := ⟨w5.heap.size, 0, none⟩) (show w5.heap.size < _ by (try simp) <;> (try omega)) (by show w5.heap.size < _ ∨ _ ≤ w5.heap.size; omega)]
    exact q13_3_0
  have q14_3_1 : w14.cell? ⟨w5.heap.size, 1, none⟩ = some (.int .i64 M.nodes) := by
    rw [hb14.cell (p := ⟨w5.heap.size, 1, none⟩) (show w5.heap.size < _ by (try simp) <;> (try omega)) (by show w5.heap.size < _ ∨ _ ≤ w5.heap.size; omega)]
    exact q13_3_1
  have q14_3_2 : w14.cell? ⟨w5.heap.size, 2, none⟩ = some (.int .i64 M.term) := by
    rw [hb14.cell (p := ⟨w5.heap.size, 2, none⟩) (show w5.heap.size < _ by (try simp) <;> (try omega)) (by show w5.heap.size < _ ∨ _ ≤ w5.heap.size; omega)]
    exact q13_3_2
  have q14_3_3 : w14.cell? ⟨w5.heap.size, 3, none⟩ = some (.int .i64 M.vote) := by
    rw [hb14.cell (p := ⟨w5.heap.size, 3, none⟩) (show w5.heap.size < _ by (try simp) <;> (try omega)) (by show w5.heap.size < _ ∨ _ ≤ w5.heap.size; omega)]
    exact q13_3_3
  have q14_3_4 : w14.cell? ⟨w5.heap.size, 4, none⟩ = some (.int .i64 M.role) := by
    rw [hb14.cell (p := ⟨w5.heap.size, 4, none⟩) (show w5.heap.size < _ by (try simp) <;> (try omega)) (by show w5.heap.size < _ ∨ _ ≤ w5.heap.size; omega)]
    exact q13_3_4
  have q14_3_5 : w14.cell? ⟨w5.heap.size, 5, none⟩ = some (.bool M.up) := by
    rw [hb14.cell (p := ⟨w5.heap.size, 5, none⟩) (show w5.heap.size < _ by (try simp) <;> (try omega)) (by show w5.heap.size < _ ∨ _ ≤ w5.heap.size; omega)]
    exact q13_3_5
  have q14_3_6 : w14.cell? ⟨w5.heap.size, 6, none⟩ = some (.slice al5 M.log.length cl5) := by
    rw [hb14.cell (p := ⟨w5.heap.size, 6, none⟩) (show w5.heap.size < _ by (try simp) <;> (try omega)) (by show w5.heap.size < _ ∨ _ ≤ w5.heap.size; omega)]
    exact q13_3_6
  have q14_3_7 : w14.cell? ⟨w5.heap.size, 7, none⟩ = some (.int .i64 M.commit) := by
    rw [hb14.cell (p := ⟨w5.heap.size, 7, none⟩) (show w5.heap.size < _ by (try simp) <;> (try omega)) (by show w5.heap.size < _ ∨ _ ≤ w5.heap.size; omega)]
    exact q13_3_7
  have q14_3_8 : w14.cell? ⟨w5.heap.size, 8, none⟩ = some (.int .i64 M.elapsed) := by
    rw [hb14.cell (p := ⟨w5.heap.size, 8, none⟩) (show w5.heap.size < _ by (try simp) <;> (try omega)) (by show w5.heap.size < _ ∨ _ ≤ w5.heap.size; omega)]
    exact q13_3_8
  have q14_3_9 : w14.cell? ⟨w5.heap.size, 9, none⟩ = some (.int .i64 M.wait) := by
    rw [hb14.cell (p := ⟨w5.heap.size, 9, none⟩) (show w5.heap.size < _ by (try simp) <;> (try omega)) (by show w5.heap.size < _ ∨ _ ≤ w5.heap.size; omega)]
    exact q13_3_9
  have q14_3_10 : w14.cell? ⟨w5.heap.size, 10, none⟩ = some (.slice av5 M.votes.length cv5) := by
    rw [hb14.cell (p := ⟨w5.heap.size, 10, none⟩) (show w5.heap.size < _ by (try simp) <;> (try omega)) (by show w5.heap.size < _ ∨ _ ≤ w5.heap.size; omega)]
    exact q13_3_10
  have q14_3_11 : w14.cell? ⟨w5.heap.size, 11, none⟩ = some (.slice an5 M.next.length cn5) := by
    rw [hb14.cell (p := ⟨w5.heap.size, 11, none⟩) (show w5.heap.size < _ by (try simp) <;> (try omega)) (by show w5.heap.size < _ ∨ _ ≤ w5.heap.size; omega)]
    exact q13_3_11
  have q14_3_12 : w14.cell? ⟨w5.heap.size, 12, none⟩ = some (.slice am5 M.mtch.length cm5) := by
    rw [hb14.cell (p := ⟨w5.heap.size, 12, none⟩) (show w5.heap.size < _ by (try simp) <;> (try omega)) (by show w5.heap.size < _ ∨ _ ≤ w5.heap.size; omega)]
    exact q13_3_12
  have hl14_3 : w5.heap.size < w14.heap.size := by omega
  clear q13_3_0 q13_3_1 q13_3_2 q13_3_3 q13_3_4 q13_3_5 q13_3_6 q13_3_7 q13_3_8 q13_3_9 q13_3_10 q13_3_11 q13_3_12
  have HB14 : Hid (Below w.heap.size w w14) := HB13.out.trans (hb14.below (by omega) (by (try simp) <;> (try omega)))
  clear hb14
  clear HY513
  go_wp2_with fail
  refine (heldNodeX_c al5 cl5 av5 cv5 an5 cn5 am5 cm5 M 1 (w4.heap.size + 1) (md5) _ HK14.out HMK2.out).mono ?_
  rw [HK1.out]
  rintro e w15 ⟨rfl, hb15⟩
  have hz15 := hb15.size
  have HS15 := Lib.hid (HS14.out.below hb15)
  clear HS14
  have HK15 := Lib.hid (HK14.out.below hb15)
  clear HK14
  have HJ15 := Lib.hid (HJ_14.out.below hb15)
  clear HJ_14
  have q15_0_0 : w15.cell? ⟨w.heap.size, 0, none⟩ = some (.int .i64 N.id) := by
    rw [hb15.cell (p := ⟨w.heap.size, 0, none⟩) (show w.heap.size < _ by (try simp) <;> (try omega))]
    exact q14_0_0
  have q15_0_1 : w15.cell? ⟨w.heap.size, 1, none⟩ = some (.int .i64 N.nodes) := by
    rw [hb15.cell (p := ⟨w.heap.size, 1, none⟩) (show w.heap.size < _ by (try simp) <;> (try omega))]
    exact q14_0_1
  have q15_0_2 : w15.cell? ⟨w.heap.size, 2, none⟩ = some (.int .i64 N.term) := by
    rw [hb15.cell (p := ⟨w.heap.size, 2, none⟩) (show w.heap.size < _ by (try simp) <;> (try omega))]
    exact q14_0_2
  have q15_0_3 : w15.cell? ⟨w.heap.size, 3, none⟩ = some (.int .i64 N.vote) := by
    rw [hb15.cell (p := ⟨w.heap.size, 3, none⟩) (show w.heap.size < _ by (try simp) <;> (try omega))]
    exact q14_0_3
  have q15_0_4 : w15.cell? ⟨w.heap.size, 4, none⟩ = some (.int .i64 N.role) := by
    rw [hb15.cell (p := ⟨w.heap.size, 4, none⟩) (show w.heap.size < _ by (try simp) <;> (try omega))]
    exact q14_0_4
  have q15_0_5 : w15.cell? ⟨w.heap.size, 5, none⟩ = some (.bool N.up) := by
    rw [hb15.cell (p := ⟨w.heap.size, 5, none⟩) (show w.heap.size < _ by (try simp) <;> (try omega))]
    exact q14_0_5
  have q15_0_6 : w15.cell? ⟨w.heap.size, 6, none⟩ = some (.slice al N.log.length cl) := by
    rw [hb15.cell (p := ⟨w.heap.size, 6, none⟩) (show w.heap.size < _ by (try simp) <;> (try omega))]
    exact q14_0_6
  have q15_0_7 : w15.cell? ⟨w.heap.size, 7, none⟩ = some (.int .i64 N.commit) := by
    rw [hb15.cell (p := ⟨w.heap.size, 7, none⟩) (show w.heap.size < _ by (try simp) <;> (try omega))]
    exact q14_0_7
  have q15_0_8 : w15.cell? ⟨w.heap.size, 8, none⟩ = some (.int .i64 N.elapsed) := by
    rw [hb15.cell (p := ⟨w.heap.size, 8, none⟩) (show w.heap.size < _ by (try simp) <;> (try omega))]
    exact q14_0_8
  have q15_0_9 : w15.cell? ⟨w.heap.size, 9, none⟩ = some (.int .i64 N.wait) := by
    rw [hb15.cell (p := ⟨w.heap.size, 9, none⟩) (show w.heap.size < _ by (try simp) <;> (try omega))]
    exact q14_0_9
  have q15_0_10 : w15.cell? ⟨w.heap.size, 10, none⟩ = some (.slice av N.votes.length cv) := by
    rw [hb15.cell (p := ⟨w.heap.size, 10, none⟩) (show w.heap.size < _ by (try simp) <;> (try omega))]
    exact q14_0_10
  have q15_0_11 : w15.cell? ⟨w.heap.size, 11, none⟩ = some (.slice an N.next.length cn) := by
    rw [hb15.cell (p := ⟨w.heap.size, 11, none⟩) (show w.heap.size < _ by (try simp) <;> (try omega))]
    exact q14_0_11
  have q15_0_12 : w15.cell? ⟨w.heap.size, 12, none⟩ = some (.slice am N.mtch.length cm) := by
    rw [hb15.cell (p := ⟨w.heap.size, 12, none⟩) (show w.heap.size < _ by (try simp) <;> (try omega))]
    exact q14_0_12
  have hl15_0 : w.heap.size < w15.heap.size := by omega
  clear q14_0_0 q14_0_1 q14_0_2 q14_0_3 q14_0_4 q14_0_5 q14_0_6 q14_0_7 q14_0_8 q14_0_9 q14_0_10 q14_0_11 q14_0_12
  have q15_1_0 : w15.cell? ⟨w3.heap.size, 0, none⟩ = some (.int .i64 M.id) := by
    rw [hb15.cell (p := ⟨w3.heap.size, 0, none⟩) (show w3.heap.size < _ by (try simp) <;> (try omega))]
    exact q14_1_0
  have q15_1_1 : w15.cell? ⟨w3.heap.size, 1, none⟩ = some (.int .i64 M.nodes) := by
    rw [hb15.cell (p := ⟨w3.heap.size, 1, none⟩) (show w3.heap.size < _ by (try simp) <;> (try omega))]
    exact q14_1_1
  have q15_1_2 : w15.cell? ⟨w3.heap.size, 2, none⟩ = some (.int .i64 M.term) := by
    rw [hb15.cell (p := ⟨w3.heap.size, 2, none⟩) (show w3.heap.size < _ by (try simp) <;> (try omega))]
    exact q14_1_2
  have q15_1_3 : w15.cell? ⟨w3.heap.size, 3, none⟩ = some (.int .i64 M.vote) := by
    rw [hb15.cell (p := ⟨w3.heap.size, 3, none⟩) (show w3.heap.size < _ by (try simp) <;> (try omega))]
    exact q14_1_3
  have q15_1_4 : w15.cell? ⟨w3.heap.size, 4, none⟩ = some (.int .i64 M.role) := by
    rw [hb15.cell (p := ⟨w3.heap.size, 4, none⟩) (show w3.heap.size < _ by (try simp) <;> (try omega))]
    exact q14_1_4
  have q15_1_5 : w15.cell? ⟨w3.heap.size, 5, none⟩ = some (.bool M.up) := by
    rw [hb15.cell (p := ⟨w3.heap.size, 5, none⟩) (show w3.heap.size < _ by (try simp) <;> (try omega))]
    exact q14_1_5
  have q15_1_6 : w15.cell? ⟨w3.heap.size, 6, none⟩ = some (.slice al3 M.log.length cl3) := by
    rw [hb15.cell (p := ⟨w3.heap.size, 6, none⟩) (show w3.heap.size < _ by (try simp) <;> (try omega))]
    exact q14_1_6
  have q15_1_7 : w15.cell? ⟨w3.heap.size, 7, none⟩ = some (.int .i64 M.commit) := by
    rw [hb15.cell (p := ⟨w3.heap.size, 7, none⟩) (show w3.heap.size < _ by (try simp) <;> (try omega))]
    exact q14_1_7
  have q15_1_8 : w15.cell? ⟨w3.heap.size, 8, none⟩ = some (.int .i64 M.elapsed) := by
    rw [hb15.cell (p := ⟨w3.heap.size, 8, none⟩) (show w3.heap.size < _ by (try simp) <;> (try omega))]
    exact q14_1_8
  have q15_1_9 : w15.cell? ⟨w3.heap.size, 9, none⟩ = some (.int .i64 M.wait) := by
    rw [hb15.cell (p := ⟨w3.heap.size, 9, none⟩) (show w3.heap.size < _ by (try simp) <;> (try omega))]
    exact q14_1_9
  have q15_1_10 : w15.cell? ⟨w3.heap.size, 10, none⟩ = some (.slice av3 M.votes.length cv3) := by
    rw [hb15.cell (p := ⟨w3.heap.size, 10, none⟩) (show w3.heap.size < _ by (try simp) <;> (try omega))]
    exact q14_1_10
  have q15_1_11 : w15.cell? ⟨w3.heap.size, 11, none⟩ = some (.slice an3 M.next.length cn3) := by
    rw [hb15.cell (p := ⟨w3.heap.size, 11, none⟩) (show w3.heap.size < _ by (try simp) <;> (try omega))]
    exact q14_1_11
  have q15_1_12 : w15.cell? ⟨w3.heap.size, 12, none⟩ = some (.slice am3 M.mtch.length cm3) := by
    rw [hb15.cell (p := ⟨w3.heap.size, 12, none⟩) (show w3.heap.size < _ by (try simp) <;> (try omega))]
    exact q14_1_12
  have hl15_1 : w3.heap.size < w15.heap.size := by omega
  clear q14_1_0 q14_1_1 q14_1_2 q14_1_3 q14_1_4 q14_1_5 q14_1_6 q14_1_7 q14_1_8 q14_1_9 q14_1_10 q14_1_11 q14_1_12
  have q15_2_0 : w15.cell? ⟨w4.heap.size, 0, none⟩ = some (.int .i64 N.id) := by
    rw [hb15.cell (p := ⟨w4.heap.size, 0, none⟩) (show w4.heap.size < _ by (try simp) <;> (try omega))]
    exact q14_2_0
  have q15_2_1 : w15.cell? ⟨w4.heap.size, 1, none⟩ = some (.int .i64 N.nodes) := by
    rw [hb15.cell (p := ⟨w4.heap.size, 1, none⟩) (show w4.heap.size < _ by (try simp) <;> (try omega))]
    exact q14_2_1
  have q15_2_2 : w15.cell? ⟨w4.heap.size, 2, none⟩ = some (.int .i64 N.term) := by
    rw [hb15.cell (p := ⟨w4.heap.size, 2, none⟩) (show w4.heap.size < _ by (try simp) <;> (try omega))]
    exact q14_2_2
  have q15_2_3 : w15.cell? ⟨w4.heap.size, 3, none⟩ = some (.int .i64 N.vote) := by
    rw [hb15.cell (p := ⟨w4.heap.size, 3, none⟩) (show w4.heap.size < _ by (try simp) <;> (try omega))]
    exact q14_2_3
  have q15_2_4 : w15.cell? ⟨w4.heap.size, 4, none⟩ = some (.int .i64 N.role) := by
    rw [hb15.cell (p := ⟨w4.heap.size, 4, none⟩) (show w4.heap.size < _ by (try simp) <;> (try omega))]
    exact q14_2_4
  have q15_2_5 : w15.cell? ⟨w4.heap.size, 5, none⟩ = some (.bool N.up) := by
    rw [hb15.cell (p := ⟨w4.heap.size, 5, none⟩) (show w4.heap.size < _ by (try simp) <;> (try omega))]
    exact q14_2_5
  have q15_2_6 : w15.cell? ⟨w4.heap.size, 6, none⟩ = some (.slice al4 N.log.length cl4) := by
    rw [hb15.cell (p := ⟨w4.heap.size, 6, none⟩) (show w4.heap.size < _ by (try simp) <;> (try omega))]
    exact q14_2_6
  have q15_2_7 : w15.cell? ⟨w4.heap.size, 7, none⟩ = some (.int .i64 N.commit) := by
    rw [hb15.cell (p := ⟨w4.heap.size, 7, none⟩) (show w4.heap.size < _ by (try simp) <;> (try omega))]
    exact q14_2_7
  have q15_2_8 : w15.cell? ⟨w4.heap.size, 8, none⟩ = some (.int .i64 N.elapsed) := by
    rw [hb15.cell (p := ⟨w4.heap.size, 8, none⟩) (show w4.heap.size < _ by (try simp) <;> (try omega))]
    exact q14_2_8
  have q15_2_9 : w15.cell? ⟨w4.heap.size, 9, none⟩ = some (.int .i64 N.wait) := by
    rw [hb15.cell (p := ⟨w4.heap.size, 9, none⟩) (show w4.heap.size < _ by (try simp) <;> (try omega))]
    exact q14_2_9
  have q15_2_10 : w15.cell? ⟨w4.heap.size, 10, none⟩ = some (.slice av4 N.votes.length cv4) := by
    rw [hb15.cell (p := ⟨w4.heap.size, 10, none⟩) (show w4.heap.size < _ by (try simp) <;> (try omega))]
    exact q14_2_10
  have q15_2_11 : w15.cell? ⟨w4.heap.size, 11, none⟩ = some (.slice an4 N.next.length cn4) := by
    rw [hb15.cell (p := ⟨w4.heap.size, 11, none⟩) (show w4.heap.size < _ by (try simp) <;> (try omega))]
    exact q14_2_11
  have q15_2_12 : w15.cell? ⟨w4.heap.size, 12, none⟩ = some (.slice am4 N.mtch.length cm4) := by
    rw [hb15.cell (p := ⟨w4.heap.size, 12, none⟩) (show w4.heap.size < _ by (try simp) <;> (try omega))]
    exact q14_2_12
  have hl15_2 : w4.heap.size < w15.heap.size := by omega
  clear q14_2_0 q14_2_1 q14_2_2 q14_2_3 q14_2_4 q14_2_5 q14_2_6 q14_2_7 q14_2_8 q14_2_9 q14_2_10 q14_2_11 q14_2_12
  have q15_3_0 : w15.cell? ⟨w5.heap.size, 0, none⟩ = some (.int .i64 M.id) := by
    rw [hb15.cell (p := ⟨w5.heap.size, 0, none⟩) (show w5.heap.size < _ by (try simp) <;> (try omega))]
    exact q14_3_0
  have q15_3_1 : w15.cell? ⟨w5.heap.size, 1, none⟩ = some (.int .i64 M.nodes) := by
    rw [hb15.cell (p := ⟨w5.heap.size, 1, none⟩) (show w5.heap.size < _ by (try simp) <;> (try omega))]
    exact q14_3_1
  have q15_3_2 : w15.cell? ⟨w5.heap.size, 2, none⟩ = some (.int .i64 M.term) := by
    rw [hb15.cell (p := ⟨w5.heap.size, 2, none⟩) (show w5.heap.size < _ by (try simp) <;> (try omega))]
    exact q14_3_2
  have q15_3_3 : w15.cell? ⟨w5.heap.size, 3, none⟩ = some (.int .i64 M.vote) := by
    rw [hb15.cell (p := ⟨w5.heap.size, 3, none⟩) (show w5.heap.size < _ by (try simp) <;> (try omega))]
    exact q14_3_3
  have q15_3_4 : w15.cell? ⟨w5.heap.size, 4, none⟩ = some (.int .i64 M.role) := by
    rw [hb15.cell (p := ⟨w5.heap.size, 4, none⟩) (show w5.heap.size < _ by (try simp) <;> (try omega))]
    exact q14_3_4
  have q15_3_5 : w15.cell? ⟨w5.heap.size, 5, none⟩ = some (.bool M.up) := by
    rw [hb15.cell (p := ⟨w5.heap.size, 5, none⟩) (show w5.heap.size < _ by (try simp) <;> (try omega))]
    exact q14_3_5
  have q15_3_6 : w15.cell? ⟨w5.heap.size, 6, none⟩ = some (.slice al5 M.log.length cl5) := by
    rw [hb15.cell (p := ⟨w5.heap.size, 6, none⟩) (show w5.heap.size < _ by (try simp) <;> (try omega))]
    exact q14_3_6
  have q15_3_7 : w15.cell? ⟨w5.heap.size, 7, none⟩ = some (.int .i64 M.commit) := by
    rw [hb15.cell (p := ⟨w5.heap.size, 7, none⟩) (show w5.heap.size < _ by (try simp) <;> (try omega))]
    exact q14_3_7
  have q15_3_8 : w15.cell? ⟨w5.heap.size, 8, none⟩ = some (.int .i64 M.elapsed) := by
    rw [hb15.cell (p := ⟨w5.heap.size, 8, none⟩) (show w5.heap.size < _ by (try simp) <;> (try omega))]
    exact q14_3_8
  have q15_3_9 : w15.cell? ⟨w5.heap.size, 9, none⟩ = some (.int .i64 M.wait) := by
    rw [hb15.cell (p := ⟨w5.heap.size, 9, none⟩) (show w5.heap.size < _ by (try simp) <;> (try omega))]
    exact q14_3_9
  have q15_3_10 : w15.cell? ⟨w5.heap.size, 10, none⟩ = some (.slice av5 M.votes.length cv5) := by
    rw [hb15.cell (p := ⟨w5.heap.size, 10, none⟩) (show w5.heap.size < _ by (try simp) <;> (try omega))]
    exact q14_3_10
  have q15_3_11 : w15.cell? ⟨w5.heap.size, 11, none⟩ = some (.slice an5 M.next.length cn5) := by
    rw [hb15.cell (p := ⟨w5.heap.size, 11, none⟩) (show w5.heap.size < _ by (try simp) <;> (try omega))]
    exact q14_3_11
  have q15_3_12 : w15.cell? ⟨w5.heap.size, 12, none⟩ = some (.slice am5 M.mtch.length cm5) := by
    rw [hb15.cell (p := ⟨w5.heap.size, 12, none⟩) (show w5.heap.size < _ by (try simp) <;> (try omega))]
    exact q14_3_12
  have hl15_3 : w5.heap.size < w15.heap.size := by omega
  clear q14_3_0 q14_3_1 q14_3_2 q14_3_3 q14_3_4 q14_3_5 q14_3_6 q14_3_7 q14_3_8 q14_3_9 q14_3_10 q14_3_11 q14_3_12
  have HB15 : Hid (Below w.heap.size w w15) := HB14.out.trans (hb15.mono (by (try simp) <;> (try omega)))
  clear hb15
  go_wp2_with fail
  refine (heldMsgPE_c (md5) (w5.heap.size) cr5 K1 ar5 rs5 _ HJ15.out HK2b.out).mono ?_
  rw [HK2.out]
  rintro e w16 ⟨rfl, hb16⟩
  have hz16 := hb16.size
  have HS16 := Lib.hid (HS15.out.below hb16)
  clear HS15
  have HK16 := Lib.hid (HK15.out.below hb16)
  clear HK15
  have HJ16 := Lib.hid (HJ15.out.below hb16)
  clear HJ15
  have q16_0_0 : w16.cell? ⟨w.heap.size, 0, none⟩ = some (.int .i64 N.id) := by
    rw [hb16.cell (p := ⟨w.heap.size, 0, none⟩) (show w.heap.size < _ by (try simp) <;> (try omega))]
    exact q15_0_0
  have q16_0_1 : w16.cell? ⟨w.heap.size, 1, none⟩ = some (.int .i64 N.nodes) := by
    rw [hb16.cell (p := ⟨w.heap.size, 1, none⟩) (show w.heap.size < _ by (try simp) <;> (try omega))]
    exact q15_0_1
  have q16_0_2 : w16.cell? ⟨w.heap.size, 2, none⟩ = some (.int .i64 N.term) := by
    rw [hb16.cell (p := ⟨w.heap.size, 2, none⟩) (show w.heap.size < _ by (try simp) <;> (try omega))]
    exact q15_0_2
  have q16_0_3 : w16.cell? ⟨w.heap.size, 3, none⟩ = some (.int .i64 N.vote) := by
    rw [hb16.cell (p := ⟨w.heap.size, 3, none⟩) (show w.heap.size < _ by (try simp) <;> (try omega))]
    exact q15_0_3
  have q16_0_4 : w16.cell? ⟨w.heap.size, 4, none⟩ = some (.int .i64 N.role) := by
    rw [hb16.cell (p := ⟨w.heap.size, 4, none⟩) (show w.heap.size < _ by (try simp) <;> (try omega))]
    exact q15_0_4
  have q16_0_5 : w16.cell? ⟨w.heap.size, 5, none⟩ = some (.bool N.up) := by
    rw [hb16.cell (p := ⟨w.heap.size, 5, none⟩) (show w.heap.size < _ by (try simp) <;> (try omega))]
    exact q15_0_5
  have q16_0_6 : w16.cell? ⟨w.heap.size, 6, none⟩ = some (.slice al N.log.length cl) := by
    rw [hb16.cell (p := ⟨w.heap.size, 6, none⟩) (show w.heap.size < _ by (try simp) <;> (try omega))]
    exact q15_0_6
  have q16_0_7 : w16.cell? ⟨w.heap.size, 7, none⟩ = some (.int .i64 N.commit) := by
    rw [hb16.cell (p := ⟨w.heap.size, 7, none⟩) (show w.heap.size < _ by (try simp) <;> (try omega))]
    exact q15_0_7
  have q16_0_8 : w16.cell? ⟨w.heap.size, 8, none⟩ = some (.int .i64 N.elapsed) := by
    rw [hb16.cell (p := ⟨w.heap.size, 8, none⟩) (show w.heap.size < _ by (try simp) <;> (try omega))]
    exact q15_0_8
  have q16_0_9 : w16.cell? ⟨w.heap.size, 9, none⟩ = some (.int .i64 N.wait) := by
    rw [hb16.cell (p := ⟨w.heap.size, 9, none⟩) (show w.heap.size < _ by (try simp) <;> (try omega))]
    exact q15_0_9
  have q16_0_10 : w16.cell? ⟨w.heap.size, 10, none⟩ = some (.slice av N.votes.length cv) := by
    rw [hb16.cell (p := ⟨w.heap.size, 10, none⟩) (show w.heap.size < _ by (try simp) <;> (try omega))]
    exact q15_0_10
  have q16_0_11 : w16.cell? ⟨w.heap.size, 11, none⟩ = some (.slice an N.next.length cn) := by
    rw [hb16.cell (p := ⟨w.heap.size, 11, none⟩) (show w.heap.size < _ by (try simp) <;> (try omega))]
    exact q15_0_11
  have q16_0_12 : w16.cell? ⟨w.heap.size, 12, none⟩ = some (.slice am N.mtch.length cm) := by
    rw [hb16.cell (p := ⟨w.heap.size, 12, none⟩) (show w.heap.size < _ by (try simp) <;> (try omega))]
    exact q15_0_12
  have hl16_0 : w.heap.size < w16.heap.size := by omega
  clear q15_0_0 q15_0_1 q15_0_2 q15_0_3 q15_0_4 q15_0_5 q15_0_6 q15_0_7 q15_0_8 q15_0_9 q15_0_10 q15_0_11 q15_0_12
  have q16_1_0 : w16.cell? ⟨w3.heap.size, 0, none⟩ = some (.int .i64 M.id) := by
    rw [hb16.cell (p := ⟨w3.heap.size, 0, none⟩) (show w3.heap.size < _ by (try simp) <;> (try omega))]
    exact q15_1_0
  have q16_1_1 : w16.cell? ⟨w3.heap.size, 1, none⟩ = some (.int .i64 M.nodes) := by
    rw [hb16.cell (p := ⟨w3.heap.size, 1, none⟩) (show w3.heap.size < _ by (try simp) <;> (try omega))]
    exact q15_1_1
  have q16_1_2 : w16.cell? ⟨w3.heap.size, 2, none⟩ = some (.int .i64 M.term) := by
    rw [hb16.cell (p := ⟨w3.heap.size, 2, none⟩) (show w3.heap.size < _ by (try simp) <;> (try omega))]
    exact q15_1_2
  have q16_1_3 : w16.cell? ⟨w3.heap.size, 3, none⟩ = some (.int .i64 M.vote) := by
    rw [hb16.cell (p := ⟨w3.heap.size, 3, none⟩) (show w3.heap.size < _ by (try simp) <;> (try omega))]
    exact q15_1_3
  have q16_1_4 : w16.cell? ⟨w3.heap.size, 4, none⟩ = some (.int .i64 M.role) := by
    rw [hb16.cell (p := ⟨w3.heap.size, 4, none⟩) (show w3.heap.size < _ by (try simp) <;> (try omega))]
    exact q15_1_4
  have q16_1_5 : w16.cell? ⟨w3.heap.size, 5, none⟩ = some (.bool M.up) := by
    rw [hb16.cell (p := ⟨w3.heap.size, 5, none⟩) (show w3.heap.size < _ by (try simp) <;> (try omega))]
    exact q15_1_5
  have q16_1_6 : w16.cell? ⟨w3.heap.size, 6, none⟩ = some (.slice al3 M.log.length cl3) := by
    rw [hb16.cell (p := ⟨w3.heap.size, 6, none⟩) (show w3.heap.size < _ by (try simp) <;> (try omega))]
    exact q15_1_6
  have q16_1_7 : w16.cell? ⟨w3.heap.size, 7, none⟩ = some (.int .i64 M.commit) := by
    rw [hb16.cell (p := ⟨w3.heap.size, 7, none⟩) (show w3.heap.size < _ by (try simp) <;> (try omega))]
    exact q15_1_7
  have q16_1_8 : w16.cell? ⟨w3.heap.size, 8, none⟩ = some (.int .i64 M.elapsed) := by
    rw [hb16.cell (p := ⟨w3.heap.size, 8, none⟩) (show w3.heap.size < _ by (try simp) <;> (try omega))]
    exact q15_1_8
  have q16_1_9 : w16.cell? ⟨w3.heap.size, 9, none⟩ = some (.int .i64 M.wait) := by
    rw [hb16.cell (p := ⟨w3.heap.size, 9, none⟩) (show w3.heap.size < _ by (try simp) <;> (try omega))]
    exact q15_1_9
  have q16_1_10 : w16.cell? ⟨w3.heap.size, 10, none⟩ = some (.slice av3 M.votes.length cv3) := by
    rw [hb16.cell (p := ⟨w3.heap.size, 10, none⟩) (show w3.heap.size < _ by (try simp) <;> (try omega))]
    exact q15_1_10
  have q16_1_11 : w16.cell? ⟨w3.heap.size, 11, none⟩ = some (.slice an3 M.next.length cn3) := by
    rw [hb16.cell (p := ⟨w3.heap.size, 11, none⟩) (show w3.heap.size < _ by (try simp) <;> (try omega))]
    exact q15_1_11
  have q16_1_12 : w16.cell? ⟨w3.heap.size, 12, none⟩ = some (.slice am3 M.mtch.length cm3) := by
    rw [hb16.cell (p := ⟨w3.heap.size, 12, none⟩) (show w3.heap.size < _ by (try simp) <;> (try omega))]
    exact q15_1_12
  have hl16_1 : w3.heap.size < w16.heap.size := by omega
  clear q15_1_0 q15_1_1 q15_1_2 q15_1_3 q15_1_4 q15_1_5 q15_1_6 q15_1_7 q15_1_8 q15_1_9 q15_1_10 q15_1_11 q15_1_12
  have q16_2_0 : w16.cell? ⟨w4.heap.size, 0, none⟩ = some (.int .i64 N.id) := by
    rw [hb16.cell (p := ⟨w4.heap.size, 0, none⟩) (show w4.heap.size < _ by (try simp) <;> (try omega))]
    exact q15_2_0
  have q16_2_1 : w16.cell? ⟨w4.heap.size, 1, none⟩ = some (.int .i64 N.nodes) := by
    rw [hb16.cell (p := ⟨w4.heap.size, 1, none⟩) (show w4.heap.size < _ by (try simp) <;> (try omega))]
    exact q15_2_1
  have q16_2_2 : w16.cell? ⟨w4.heap.size, 2, none⟩ = some (.int .i64 N.term) := by
    rw [hb16.cell (p := ⟨w4.heap.size, 2, none⟩) (show w4.heap.size < _ by (try simp) <;> (try omega))]
    exact q15_2_2
  have q16_2_3 : w16.cell? ⟨w4.heap.size, 3, none⟩ = some (.int .i64 N.vote) := by
    rw [hb16.cell (p := ⟨w4.heap.size, 3, none⟩) (show w4.heap.size < _ by (try simp) <;> (try omega))]
    exact q15_2_3
  have q16_2_4 : w16.cell? ⟨w4.heap.size, 4, none⟩ = some (.int .i64 N.role) := by
    rw [hb16.cell (p := ⟨w4.heap.size, 4, none⟩) (show w4.heap.size < _ by (try simp) <;> (try omega))]
    exact q15_2_4
  have q16_2_5 : w16.cell? ⟨w4.heap.size, 5, none⟩ = some (.bool N.up) := by
    rw [hb16.cell (p := ⟨w4.heap.size, 5, none⟩) (show w4.heap.size < _ by (try simp) <;> (try omega))]
    exact q15_2_5
  have q16_2_6 : w16.cell? ⟨w4.heap.size, 6, none⟩ = some (.slice al4 N.log.length cl4) := by
    rw [hb16.cell (p := ⟨w4.heap.size, 6, none⟩) (show w4.heap.size < _ by (try simp) <;> (try omega))]
    exact q15_2_6
  have q16_2_7 : w16.cell? ⟨w4.heap.size, 7, none⟩ = some (.int .i64 N.commit) := by
    rw [hb16.cell (p := ⟨w4.heap.size, 7, none⟩) (show w4.heap.size < _ by (try simp) <;> (try omega))]
    exact q15_2_7
  have q16_2_8 : w16.cell? ⟨w4.heap.size, 8, none⟩ = some (.int .i64 N.elapsed) := by
    rw [hb16.cell (p := ⟨w4.heap.size, 8, none⟩) (show w4.heap.size < _ by (try simp) <;> (try omega))]
    exact q15_2_8
  have q16_2_9 : w16.cell? ⟨w4.heap.size, 9, none⟩ = some (.int .i64 N.wait) := by
    rw [hb16.cell (p := ⟨w4.heap.size, 9, none⟩) (show w4.heap.size < _ by (try simp) <;> (try omega))]
    exact q15_2_9
  have q16_2_10 : w16.cell? ⟨w4.heap.size, 10, none⟩ = some (.slice av4 N.votes.length cv4) := by
    rw [hb16.cell (p := ⟨w4.heap.size, 10, none⟩) (show w4.heap.size < _ by (try simp) <;> (try omega))]
    exact q15_2_10
  have q16_2_11 : w16.cell? ⟨w4.heap.size, 11, none⟩ = some (.slice an4 N.next.length cn4) := by
    rw [hb16.cell (p := ⟨w4.heap.size, 11, none⟩) (show w4.heap.size < _ by (try simp) <;> (try omega))]
    exact q15_2_11
  have q16_2_12 : w16.cell? ⟨w4.heap.size, 12, none⟩ = some (.slice am4 N.mtch.length cm4) := by
    rw [hb16.cell (p := ⟨w4.heap.size, 12, none⟩) (show w4.heap.size < _ by (try simp) <;> (try omega))]
    exact q15_2_12
  have hl16_2 : w4.heap.size < w16.heap.size := by omega
  clear q15_2_0 q15_2_1 q15_2_2 q15_2_3 q15_2_4 q15_2_5 q15_2_6 q15_2_7 q15_2_8 q15_2_9 q15_2_10 q15_2_11 q15_2_12
  have q16_3_0 : w16.cell? ⟨w5.heap.size, 0, none⟩ = some (.int .i64 M.id) := by
    rw [hb16.cell (p := ⟨w5.heap.size, 0, none⟩) (show w5.heap.size < _ by (try simp) <;> (try omega))]
    exact q15_3_0
  have q16_3_1 : w16.cell? ⟨w5.heap.size, 1, none⟩ = some (.int .i64 M.nodes) := by
    rw [hb16.cell (p := ⟨w5.heap.size, 1, none⟩) (show w5.heap.size < _ by (try simp) <;> (try omega))]
    exact q15_3_1
  have q16_3_2 : w16.cell? ⟨w5.heap.size, 2, none⟩ = some (.int .i64 M.term) := by
    rw [hb16.cell (p := ⟨w5.heap.size, 2, none⟩) (show w5.heap.size < _ by (try simp) <;> (try omega))]
    exact q15_3_2
  have q16_3_3 : w16.cell? ⟨w5.heap.size, 3, none⟩ = some (.int .i64 M.vote) := by
    rw [hb16.cell (p := ⟨w5.heap.size, 3, none⟩) (show w5.heap.size < _ by (try simp) <;> (try omega))]
    exact q15_3_3
  have q16_3_4 : w16.cell? ⟨w5.heap.size, 4, none⟩ = some (.int .i64 M.role) := by
    rw [hb16.cell (p := ⟨w5.heap.size, 4, none⟩) (show w5.heap.size < _ by (try simp) <;> (try omega))]
    exact q15_3_4
  have q16_3_5 : w16.cell? ⟨w5.heap.size, 5, none⟩ = some (.bool M.up) := by
    rw [hb16.cell (p := ⟨w5.heap.size, 5, none⟩) (show w5.heap.size < _ by (try simp) <;> (try omega))]
    exact q15_3_5
  have q16_3_6 : w16.cell? ⟨w5.heap.size, 6, none⟩ = some (.slice al5 M.log.length cl5) := by
    rw [hb16.cell (p := ⟨w5.heap.size, 6, none⟩) (show w5.heap.size < _ by (try simp) <;> (try omega))]
    exact q15_3_6
  have q16_3_7 : w16.cell? ⟨w5.heap.size, 7, none⟩ = some (.int .i64 M.commit) := by
    rw [hb16.cell (p := ⟨w5.heap.size, 7, none⟩) (show w5.heap.size < _ by (try simp) <;> (try omega))]
    exact q15_3_7
  have q16_3_8 : w16.cell? ⟨w5.heap.size, 8, none⟩ = some (.int .i64 M.elapsed) := by
    rw [hb16.cell (p := ⟨w5.heap.size, 8, none⟩) (show w5.heap.size < _ by (try simp) <;> (try omega))]
    exact q15_3_8
  have q16_3_9 : w16.cell? ⟨w5.heap.size, 9, none⟩ = some (.int .i64 M.wait) := by
    rw [hb16.cell (p := ⟨w5.heap.size, 9, none⟩) (show w5.heap.size < _ by (try simp) <;> (try omega))]
    exact q15_3_9
  have q16_3_10 : w16.cell? ⟨w5.heap.size, 10, none⟩ = some (.slice av5 M.votes.length cv5) := by
    rw [hb16.cell (p := ⟨w5.heap.size, 10, none⟩) (show w5.heap.size < _ by (try simp) <;> (try omega))]
    exact q15_3_10
  have q16_3_11 : w16.cell? ⟨w5.heap.size, 11, none⟩ = some (.slice an5 M.next.length cn5) := by
    rw [hb16.cell (p := ⟨w5.heap.size, 11, none⟩) (show w5.heap.size < _ by (try simp) <;> (try omega))]
    exact q15_3_11
  have q16_3_12 : w16.cell? ⟨w5.heap.size, 12, none⟩ = some (.slice am5 M.mtch.length cm5) := by
    rw [hb16.cell (p := ⟨w5.heap.size, 12, none⟩) (show w5.heap.size < _ by (try simp) <;> (try omega))]
    exact q15_3_12
  have hl16_3 : w5.heap.size < w16.heap.size := by omega
  clear q15_3_0 q15_3_1 q15_3_2 q15_3_3 q15_3_4 q15_3_5 q15_3_6 q15_3_7 q15_3_8 q15_3_9 q15_3_10 q15_3_11 q15_3_12
  have HB16 : Hid (Below w.heap.size w w16) := HB15.out.trans (hb16.mono (by (try simp) <;> (try omega)))
  clear hb16
  go_wp2_with fail
  refine (toNode_c al cl av cv an cn am cm N _ (hN.keep HB16.out) HZ.out).mono ?_
  rintro e w17 ⟨al17, cl17, av17, cv17, an17, cn17, am17, cm17, rfl, hf17, hb17⟩
  have hz17 := hb17.size
  have HX1717 := Lib.hid (show FreshNodeX (w16.heap.size) w17.heap.size N w17 al17 cl17 av17 cv17 an17 cn17 am17 cm17 from (by simpa using hf17.hereX))
  clear hf17
  have HS17 := Lib.hid (HS16.out.below hb17)
  clear HS16
  have HK17 := Lib.hid (HK16.out.below hb17)
  clear HK16
  have HJ17 := Lib.hid (HJ16.out.below hb17)
  clear HJ16
  have q17_0_0 : w17.cell? ⟨w.heap.size, 0, none⟩ = some (.int .i64 N.id) := by
    rw [hb17.cell (p := ⟨w.heap.size, 0, none⟩) (show w.heap.size < _ by (try simp) <;> (try omega))]
    exact q16_0_0
  have q17_0_1 : w17.cell? ⟨w.heap.size, 1, none⟩ = some (.int .i64 N.nodes) := by
    rw [hb17.cell (p := ⟨w.heap.size, 1, none⟩) (show w.heap.size < _ by (try simp) <;> (try omega))]
    exact q16_0_1
  have q17_0_2 : w17.cell? ⟨w.heap.size, 2, none⟩ = some (.int .i64 N.term) := by
    rw [hb17.cell (p := ⟨w.heap.size, 2, none⟩) (show w.heap.size < _ by (try simp) <;> (try omega))]
    exact q16_0_2
  have q17_0_3 : w17.cell? ⟨w.heap.size, 3, none⟩ = some (.int .i64 N.vote) := by
    rw [hb17.cell (p := ⟨w.heap.size, 3, none⟩) (show w.heap.size < _ by (try simp) <;> (try omega))]
    exact q16_0_3
  have q17_0_4 : w17.cell? ⟨w.heap.size, 4, none⟩ = some (.int .i64 N.role) := by
    rw [hb17.cell (p := ⟨w.heap.size, 4, none⟩) (show w.heap.size < _ by (try simp) <;> (try omega))]
    exact q16_0_4
  have q17_0_5 : w17.cell? ⟨w.heap.size, 5, none⟩ = some (.bool N.up) := by
    rw [hb17.cell (p := ⟨w.heap.size, 5, none⟩) (show w.heap.size < _ by (try simp) <;> (try omega))]
    exact q16_0_5
  have q17_0_6 : w17.cell? ⟨w.heap.size, 6, none⟩ = some (.slice al N.log.length cl) := by
    rw [hb17.cell (p := ⟨w.heap.size, 6, none⟩) (show w.heap.size < _ by (try simp) <;> (try omega))]
    exact q16_0_6
  have q17_0_7 : w17.cell? ⟨w.heap.size, 7, none⟩ = some (.int .i64 N.commit) := by
    rw [hb17.cell (p := ⟨w.heap.size, 7, none⟩) (show w.heap.size < _ by (try simp) <;> (try omega))]
    exact q16_0_7
  have q17_0_8 : w17.cell? ⟨w.heap.size, 8, none⟩ = some (.int .i64 N.elapsed) := by
    rw [hb17.cell (p := ⟨w.heap.size, 8, none⟩) (show w.heap.size < _ by (try simp) <;> (try omega))]
    exact q16_0_8
  have q17_0_9 : w17.cell? ⟨w.heap.size, 9, none⟩ = some (.int .i64 N.wait) := by
    rw [hb17.cell (p := ⟨w.heap.size, 9, none⟩) (show w.heap.size < _ by (try simp) <;> (try omega))]
    exact q16_0_9
  have q17_0_10 : w17.cell? ⟨w.heap.size, 10, none⟩ = some (.slice av N.votes.length cv) := by
    rw [hb17.cell (p := ⟨w.heap.size, 10, none⟩) (show w.heap.size < _ by (try simp) <;> (try omega))]
    exact q16_0_10
  have q17_0_11 : w17.cell? ⟨w.heap.size, 11, none⟩ = some (.slice an N.next.length cn) := by
    rw [hb17.cell (p := ⟨w.heap.size, 11, none⟩) (show w.heap.size < _ by (try simp) <;> (try omega))]
    exact q16_0_11
  have q17_0_12 : w17.cell? ⟨w.heap.size, 12, none⟩ = some (.slice am N.mtch.length cm) := by
    rw [hb17.cell (p := ⟨w.heap.size, 12, none⟩) (show w.heap.size < _ by (try simp) <;> (try omega))]
    exact q16_0_12
  have hl17_0 : w.heap.size < w17.heap.size := by omega
  clear q16_0_0 q16_0_1 q16_0_2 q16_0_3 q16_0_4 q16_0_5 q16_0_6 q16_0_7 q16_0_8 q16_0_9 q16_0_10 q16_0_11 q16_0_12
  have q17_1_0 : w17.cell? ⟨w3.heap.size, 0, none⟩ = some (.int .i64 M.id) := by
    rw [hb17.cell (p := ⟨w3.heap.size, 0, none⟩) (show w3.heap.size < _ by (try simp) <;> (try omega))]
    exact q16_1_0
  have q17_1_1 : w17.cell? ⟨w3.heap.size, 1, none⟩ = some (.int .i64 M.nodes) := by
    rw [hb17.cell (p := ⟨w3.heap.size, 1, none⟩) (show w3.heap.size < _ by (try simp) <;> (try omega))]
    exact q16_1_1
  have q17_1_2 : w17.cell? ⟨w3.heap.size, 2, none⟩ = some (.int .i64 M.term) := by
    rw [hb17.cell (p := ⟨w3.heap.size, 2, none⟩) (show w3.heap.size < _ by (try simp) <;> (try omega))]
    exact q16_1_2
  have q17_1_3 : w17.cell? ⟨w3.heap.size, 3, none⟩ = some (.int .i64 M.vote) := by
    rw [hb17.cell (p := ⟨w3.heap.size, 3, none⟩) (show w3.heap.size < _ by (try simp) <;> (try omega))]
    exact q16_1_3
  have q17_1_4 : w17.cell? ⟨w3.heap.size, 4, none⟩ = some (.int .i64 M.role) := by
    rw [hb17.cell (p := ⟨w3.heap.size, 4, none⟩) (show w3.heap.size < _ by (try simp) <;> (try omega))]
    exact q16_1_4
  have q17_1_5 : w17.cell? ⟨w3.heap.size, 5, none⟩ = some (.bool M.up) := by
    rw [hb17.cell (p := ⟨w3.heap.size, 5, none⟩) (show w3.heap.size < _ by (try simp) <;> (try omega))]
    exact q16_1_5
  have q17_1_6 : w17.cell? ⟨w3.heap.size, 6, none⟩ = some (.slice al3 M.log.length cl3) := by
    rw [hb17.cell (p := ⟨w3.heap.size, 6, none⟩) (show w3.heap.size < _ by (try simp) <;> (try omega))]
    exact q16_1_6
  have q17_1_7 : w17.cell? ⟨w3.heap.size, 7, none⟩ = some (.int .i64 M.commit) := by
    rw [hb17.cell (p := ⟨w3.heap.size, 7, none⟩) (show w3.heap.size < _ by (try simp) <;> (try omega))]
    exact q16_1_7
  have q17_1_8 : w17.cell? ⟨w3.heap.size, 8, none⟩ = some (.int .i64 M.elapsed) := by
    rw [hb17.cell (p := ⟨w3.heap.size, 8, none⟩) (show w3.heap.size < _ by (try simp) <;> (try omega))]
    exact q16_1_8
  have q17_1_9 : w17.cell? ⟨w3.heap.size, 9, none⟩ = some (.int .i64 M.wait) := by
    rw [hb17.cell (p := ⟨w3.heap.size, 9, none⟩) (show w3.heap.size < _ by (try simp) <;> (try omega))]
    exact q16_1_9
  have q17_1_10 : w17.cell? ⟨w3.heap.size, 10, none⟩ = some (.slice av3 M.votes.length cv3) := by
    rw [hb17.cell (p := ⟨w3.heap.size, 10, none⟩) (show w3.heap.size < _ by (try simp) <;> (try omega))]
    exact q16_1_10
  have q17_1_11 : w17.cell? ⟨w3.heap.size, 11, none⟩ = some (.slice an3 M.next.length cn3) := by
    rw [hb17.cell (p := ⟨w3.heap.size, 11, none⟩) (show w3.heap.size < _ by (try simp) <;> (try omega))]
    exact q16_1_11
  have q17_1_12 : w17.cell? ⟨w3.heap.size, 12, none⟩ = some (.slice am3 M.mtch.length cm3) := by
    rw [hb17.cell (p := ⟨w3.heap.size, 12, none⟩) (show w3.heap.size < _ by (try simp) <;> (try omega))]
    exact q16_1_12
  have hl17_1 : w3.heap.size < w17.heap.size := by omega
  clear q16_1_0 q16_1_1 q16_1_2 q16_1_3 q16_1_4 q16_1_5 q16_1_6 q16_1_7 q16_1_8 q16_1_9 q16_1_10 q16_1_11 q16_1_12
  have q17_2_0 : w17.cell? ⟨w4.heap.size, 0, none⟩ = some (.int .i64 N.id) := by
    rw [hb17.cell (p := ⟨w4.heap.size, 0, none⟩) (show w4.heap.size < _ by (try simp) <;> (try omega))]
    exact q16_2_0
  have q17_2_1 : w17.cell? ⟨w4.heap.size, 1, none⟩ = some (.int .i64 N.nodes) := by
    rw [hb17.cell (p := ⟨w4.heap.size, 1, none⟩) (show w4.heap.size < _ by (try simp) <;> (try omega))]
    exact q16_2_1
  have q17_2_2 : w17.cell? ⟨w4.heap.size, 2, none⟩ = some (.int .i64 N.term) := by
    rw [hb17.cell (p := ⟨w4.heap.size, 2, none⟩) (show w4.heap.size < _ by (try simp) <;> (try omega))]
    exact q16_2_2
  have q17_2_3 : w17.cell? ⟨w4.heap.size, 3, none⟩ = some (.int .i64 N.vote) := by
    rw [hb17.cell (p := ⟨w4.heap.size, 3, none⟩) (show w4.heap.size < _ by (try simp) <;> (try omega))]
    exact q16_2_3
  have q17_2_4 : w17.cell? ⟨w4.heap.size, 4, none⟩ = some (.int .i64 N.role) := by
    rw [hb17.cell (p := ⟨w4.heap.size, 4, none⟩) (show w4.heap.size < _ by (try simp) <;> (try omega))]
    exact q16_2_4
  have q17_2_5 : w17.cell? ⟨w4.heap.size, 5, none⟩ = some (.bool N.up) := by
    rw [hb17.cell (p := ⟨w4.heap.size, 5, none⟩) (show w4.heap.size < _ by (try simp) <;> (try omega))]
    exact q16_2_5
  have q17_2_6 : w17.cell? ⟨w4.heap.size, 6, none⟩ = some (.slice al4 N.log.length cl4) := by
    rw [hb17.cell (p := ⟨w4.heap.size, 6, none⟩) (show w4.heap.size < _ by (try simp) <;> (try omega))]
    exact q16_2_6
  have q17_2_7 : w17.cell? ⟨w4.heap.size, 7, none⟩ = some (.int .i64 N.commit) := by
    rw [hb17.cell (p := ⟨w4.heap.size, 7, none⟩) (show w4.heap.size < _ by (try simp) <;> (try omega))]
    exact q16_2_7
  have q17_2_8 : w17.cell? ⟨w4.heap.size, 8, none⟩ = some (.int .i64 N.elapsed) := by
    rw [hb17.cell (p := ⟨w4.heap.size, 8, none⟩) (show w4.heap.size < _ by (try simp) <;> (try omega))]
    exact q16_2_8
  have q17_2_9 : w17.cell? ⟨w4.heap.size, 9, none⟩ = some (.int .i64 N.wait) := by
    rw [hb17.cell (p := ⟨w4.heap.size, 9, none⟩) (show w4.heap.size < _ by (try simp) <;> (try omega))]
    exact q16_2_9
  have q17_2_10 : w17.cell? ⟨w4.heap.size, 10, none⟩ = some (.slice av4 N.votes.length cv4) := by
    rw [hb17.cell (p := ⟨w4.heap.size, 10, none⟩) (show w4.heap.size < _ by (try simp) <;> (try omega))]
    exact q16_2_10
  have q17_2_11 : w17.cell? ⟨w4.heap.size, 11, none⟩ = some (.slice an4 N.next.length cn4) := by
    rw [hb17.cell (p := ⟨w4.heap.size, 11, none⟩) (show w4.heap.size < _ by (try simp) <;> (try omega))]
    exact q16_2_11
  have q17_2_12 : w17.cell? ⟨w4.heap.size, 12, none⟩ = some (.slice am4 N.mtch.length cm4) := by
    rw [hb17.cell (p := ⟨w4.heap.size, 12, none⟩) (show w4.heap.size < _ by (try simp) <;> (try omega))]
    exact q16_2_12
  have hl17_2 : w4.heap.size < w17.heap.size := by omega
  clear q16_2_0 q16_2_1 q16_2_2 q16_2_3 q16_2_4 q16_2_5 q16_2_6 q16_2_7 q16_2_8 q16_2_9 q16_2_10 q16_2_11 q16_2_12
  have q17_3_0 : w17.cell? ⟨w5.heap.size, 0, none⟩ = some (.int .i64 M.id) := by
    rw [hb17.cell (p := ⟨w5.heap.size, 0, none⟩) (show w5.heap.size < _ by (try simp) <;> (try omega))]
    exact q16_3_0
  have q17_3_1 : w17.cell? ⟨w5.heap.size, 1, none⟩ = some (.int .i64 M.nodes) := by
    rw [hb17.cell (p := ⟨w5.heap.size, 1, none⟩) (show w5.heap.size < _ by (try simp) <;> (try omega))]
    exact q16_3_1
  have q17_3_2 : w17.cell? ⟨w5.heap.size, 2, none⟩ = some (.int .i64 M.term) := by
    rw [hb17.cell (p := ⟨w5.heap.size, 2, none⟩) (show w5.heap.size < _ by (try simp) <;> (try omega))]
    exact q16_3_2
  have q17_3_3 : w17.cell? ⟨w5.heap.size, 3, none⟩ = some (.int .i64 M.vote) := by
    rw [hb17.cell (p := ⟨w5.heap.size, 3, none⟩) (show w5.heap.size < _ by (try simp) <;> (try omega))]
    exact q16_3_3
  have q17_3_4 : w17.cell? ⟨w5.heap.size, 4, none⟩ = some (.int .i64 M.role) := by
    rw [hb17.cell (p := ⟨w5.heap.size, 4, none⟩) (show w5.heap.size < _ by (try simp) <;> (try omega))]
    exact q16_3_4
  have q17_3_5 : w17.cell? ⟨w5.heap.size, 5, none⟩ = some (.bool M.up) := by
    rw [hb17.cell (p := ⟨w5.heap.size, 5, none⟩) (show w5.heap.size < _ by (try simp) <;> (try omega))]
    exact q16_3_5
  have q17_3_6 : w17.cell? ⟨w5.heap.size, 6, none⟩ = some (.slice al5 M.log.length cl5) := by
    rw [hb17.cell (p := ⟨w5.heap.size, 6, none⟩) (show w5.heap.size < _ by (try simp) <;> (try omega))]
    exact q16_3_6
  have q17_3_7 : w17.cell? ⟨w5.heap.size, 7, none⟩ = some (.int .i64 M.commit) := by
    rw [hb17.cell (p := ⟨w5.heap.size, 7, none⟩) (show w5.heap.size < _ by (try simp) <;> (try omega))]
    exact q16_3_7
  have q17_3_8 : w17.cell? ⟨w5.heap.size, 8, none⟩ = some (.int .i64 M.elapsed) := by
    rw [hb17.cell (p := ⟨w5.heap.size, 8, none⟩) (show w5.heap.size < _ by (try simp) <;> (try omega))]
    exact q16_3_8
  have q17_3_9 : w17.cell? ⟨w5.heap.size, 9, none⟩ = some (.int .i64 M.wait) := by
    rw [hb17.cell (p := ⟨w5.heap.size, 9, none⟩) (show w5.heap.size < _ by (try simp) <;> (try omega))]
    exact q16_3_9
  have q17_3_10 : w17.cell? ⟨w5.heap.size, 10, none⟩ = some (.slice av5 M.votes.length cv5) := by
    rw [hb17.cell (p := ⟨w5.heap.size, 10, none⟩) (show w5.heap.size < _ by (try simp) <;> (try omega))]
    exact q16_3_10
  have q17_3_11 : w17.cell? ⟨w5.heap.size, 11, none⟩ = some (.slice an5 M.next.length cn5) := by
    rw [hb17.cell (p := ⟨w5.heap.size, 11, none⟩) (show w5.heap.size < _ by (try simp) <;> (try omega))]
    exact q16_3_11
  have q17_3_12 : w17.cell? ⟨w5.heap.size, 12, none⟩ = some (.slice am5 M.mtch.length cm5) := by
    rw [hb17.cell (p := ⟨w5.heap.size, 12, none⟩) (show w5.heap.size < _ by (try simp) <;> (try omega))]
    exact q16_3_12
  have hl17_3 : w5.heap.size < w17.heap.size := by omega
  clear q16_3_0 q16_3_1 q16_3_2 q16_3_3 q16_3_4 q16_3_5 q16_3_6 q16_3_7 q16_3_8 q16_3_9 q16_3_10 q16_3_11 q16_3_12
  have HB17 : Hid (Below w.heap.size w w17) := HB16.out.trans (hb17.mono (by (try simp) <;> (try omega)))
  clear hb17
  go_wp2_with fail
  refine (implProp_c al17 cl17 av17 cv17 an17 cn17 am17 cm17 N d _ HX1717.out.sl HZ.out hd2).mono ?_
  rw [HR.out]
  unfold PropI
  rintro e w18 ⟨al18, cl18, av18, cv18, an18, cn18, am18, cm18, rs18, ar18, cr18, md18, rfl, hrs18, hfn18, hmd18, hsa18, hb18⟩
  have hz18 := hb18.size
  have HRS18 : Hid (rs18.map (·.M) = Ls) := Lib.hid hrs18
  have HI18 := Lib.hid (show FreshNodeX (w17.heap.size) md18 M w18 al18 cl18 av18 cv18 an18 cn18 am18 cm18 from (by simpa using hfn18))
  have HY18 := Lib.hid (SaI.part hsa18)
  have hlm18 : w17.heap.size ≤ md18 := by
    obtain ⟨l1, b1, v1, b2, n1, n2, m1, m2, h1, _⟩ := HI18.out
    omega
  simp only
  clear hrs18 hfn18 hsa18
  have HS18 := Lib.hid (HS17.out.below hb18)
  clear HS17
  have HK18 := Lib.hid (HK17.out.below hb18)
  clear HK17
  have HJ18 := Lib.hid (HJ17.out.below hb18)
  clear HJ17
  have HX1718 := Lib.hid (HX1717.out.below hb18)
  clear HX1717
  have q18_0_0 : w18.cell? ⟨w.heap.size, 0, none⟩ = some (.int .i64 N.id) := by
    rw [hb18.cell (p := ⟨w.heap.size, 0, none⟩) (show w.heap.size < _ by (try simp) <;> (try omega))]
    exact q17_0_0
  have q18_0_1 : w18.cell? ⟨w.heap.size, 1, none⟩ = some (.int .i64 N.nodes) := by
    rw [hb18.cell (p := ⟨w.heap.size, 1, none⟩) (show w.heap.size < _ by (try simp) <;> (try omega))]
    exact q17_0_1
  have q18_0_2 : w18.cell? ⟨w.heap.size, 2, none⟩ = some (.int .i64 N.term) := by
    rw [hb18.cell (p := ⟨w.heap.size, 2, none⟩) (show w.heap.size < _ by (try simp) <;> (try omega))]
    exact q17_0_2
  have q18_0_3 : w18.cell? ⟨w.heap.size, 3, none⟩ = some (.int .i64 N.vote) := by
    rw [hb18.cell (p := ⟨w.heap.size, 3, none⟩) (show w.heap.size < _ by (try simp) <;> (try omega))]
    exact q17_0_3
  have q18_0_4 : w18.cell? ⟨w.heap.size, 4, none⟩ = some (.int .i64 N.role) := by
    rw [hb18.cell (p := ⟨w.heap.size, 4, none⟩) (show w.heap.size < _ by (try simp) <;> (try omega))]
    exact q17_0_4
  have q18_0_5 : w18.cell? ⟨w.heap.size, 5, none⟩ = some (.bool N.up) := by
    rw [hb18.cell (p := ⟨w.heap.size, 5, none⟩) (show w.heap.size < _ by (try simp) <;> (try omega))]
    exact q17_0_5
  have q18_0_6 : w18.cell? ⟨w.heap.size, 6, none⟩ = some (.slice al N.log.length cl) := by
    rw [hb18.cell (p := ⟨w.heap.size, 6, none⟩) (show w.heap.size < _ by (try simp) <;> (try omega))]
    exact q17_0_6
  have q18_0_7 : w18.cell? ⟨w.heap.size, 7, none⟩ = some (.int .i64 N.commit) := by
    rw [hb18.cell (p := ⟨w.heap.size, 7, none⟩) (show w.heap.size < _ by (try simp) <;> (try omega))]
    exact q17_0_7
  have q18_0_8 : w18.cell? ⟨w.heap.size, 8, none⟩ = some (.int .i64 N.elapsed) := by
    rw [hb18.cell (p := ⟨w.heap.size, 8, none⟩) (show w.heap.size < _ by (try simp) <;> (try omega))]
    exact q17_0_8
  have q18_0_9 : w18.cell? ⟨w.heap.size, 9, none⟩ = some (.int .i64 N.wait) := by
    rw [hb18.cell (p := ⟨w.heap.size, 9, none⟩) (show w.heap.size < _ by (try simp) <;> (try omega))]
    exact q17_0_9
  have q18_0_10 : w18.cell? ⟨w.heap.size, 10, none⟩ = some (.slice av N.votes.length cv) := by
    rw [hb18.cell (p := ⟨w.heap.size, 10, none⟩) (show w.heap.size < _ by (try simp) <;> (try omega))]
    exact q17_0_10
  have q18_0_11 : w18.cell? ⟨w.heap.size, 11, none⟩ = some (.slice an N.next.length cn) := by
    rw [hb18.cell (p := ⟨w.heap.size, 11, none⟩) (show w.heap.size < _ by (try simp) <;> (try omega))]
    exact q17_0_11
  have q18_0_12 : w18.cell? ⟨w.heap.size, 12, none⟩ = some (.slice am N.mtch.length cm) := by
    rw [hb18.cell (p := ⟨w.heap.size, 12, none⟩) (show w.heap.size < _ by (try simp) <;> (try omega))]
    exact q17_0_12
  have hl18_0 : w.heap.size < w18.heap.size := by omega
  clear q17_0_0 q17_0_1 q17_0_2 q17_0_3 q17_0_4 q17_0_5 q17_0_6 q17_0_7 q17_0_8 q17_0_9 q17_0_10 q17_0_11 q17_0_12
  have q18_1_0 : w18.cell? ⟨w3.heap.size, 0, none⟩ = some (.int .i64 M.id) := by
    rw [hb18.cell (p := ⟨w3.heap.size, 0, none⟩) (show w3.heap.size < _ by (try simp) <;> (try omega))]
    exact q17_1_0
  have q18_1_1 : w18.cell? ⟨w3.heap.size, 1, none⟩ = some (.int .i64 M.nodes) := by
    rw [hb18.cell (p := ⟨w3.heap.size, 1, none⟩) (show w3.heap.size < _ by (try simp) <;> (try omega))]
    exact q17_1_1
  have q18_1_2 : w18.cell? ⟨w3.heap.size, 2, none⟩ = some (.int .i64 M.term) := by
    rw [hb18.cell (p := ⟨w3.heap.size, 2, none⟩) (show w3.heap.size < _ by (try simp) <;> (try omega))]
    exact q17_1_2
  have q18_1_3 : w18.cell? ⟨w3.heap.size, 3, none⟩ = some (.int .i64 M.vote) := by
    rw [hb18.cell (p := ⟨w3.heap.size, 3, none⟩) (show w3.heap.size < _ by (try simp) <;> (try omega))]
    exact q17_1_3
  have q18_1_4 : w18.cell? ⟨w3.heap.size, 4, none⟩ = some (.int .i64 M.role) := by
    rw [hb18.cell (p := ⟨w3.heap.size, 4, none⟩) (show w3.heap.size < _ by (try simp) <;> (try omega))]
    exact q17_1_4
  have q18_1_5 : w18.cell? ⟨w3.heap.size, 5, none⟩ = some (.bool M.up) := by
    rw [hb18.cell (p := ⟨w3.heap.size, 5, none⟩) (show w3.heap.size < _ by (try simp) <;> (try omega))]
    exact q17_1_5
  have q18_1_6 : w18.cell? ⟨w3.heap.size, 6, none⟩ = some (.slice al3 M.log.length cl3) := by
    rw [hb18.cell (p := ⟨w3.heap.size, 6, none⟩) (show w3.heap.size < _ by (try simp) <;> (try omega))]
    exact q17_1_6
  have q18_1_7 : w18.cell? ⟨w3.heap.size, 7, none⟩ = some (.int .i64 M.commit) := by
    rw [hb18.cell (p := ⟨w3.heap.size, 7, none⟩) (show w3.heap.size < _ by (try simp) <;> (try omega))]
    exact q17_1_7
  have q18_1_8 : w18.cell? ⟨w3.heap.size, 8, none⟩ = some (.int .i64 M.elapsed) := by
    rw [hb18.cell (p := ⟨w3.heap.size, 8, none⟩) (show w3.heap.size < _ by (try simp) <;> (try omega))]
    exact q17_1_8
  have q18_1_9 : w18.cell? ⟨w3.heap.size, 9, none⟩ = some (.int .i64 M.wait) := by
    rw [hb18.cell (p := ⟨w3.heap.size, 9, none⟩) (show w3.heap.size < _ by (try simp) <;> (try omega))]
    exact q17_1_9
  have q18_1_10 : w18.cell? ⟨w3.heap.size, 10, none⟩ = some (.slice av3 M.votes.length cv3) := by
    rw [hb18.cell (p := ⟨w3.heap.size, 10, none⟩) (show w3.heap.size < _ by (try simp) <;> (try omega))]
    exact q17_1_10
  have q18_1_11 : w18.cell? ⟨w3.heap.size, 11, none⟩ = some (.slice an3 M.next.length cn3) := by
    rw [hb18.cell (p := ⟨w3.heap.size, 11, none⟩) (show w3.heap.size < _ by (try simp) <;> (try omega))]
    exact q17_1_11
  have q18_1_12 : w18.cell? ⟨w3.heap.size, 12, none⟩ = some (.slice am3 M.mtch.length cm3) := by
    rw [hb18.cell (p := ⟨w3.heap.size, 12, none⟩) (show w3.heap.size < _ by (try simp) <;> (try omega))]
    exact q17_1_12
  have hl18_1 : w3.heap.size < w18.heap.size := by omega
  clear q17_1_0 q17_1_1 q17_1_2 q17_1_3 q17_1_4 q17_1_5 q17_1_6 q17_1_7 q17_1_8 q17_1_9 q17_1_10 q17_1_11 q17_1_12
  have q18_2_0 : w18.cell? ⟨w4.heap.size, 0, none⟩ = some (.int .i64 N.id) := by
    rw [hb18.cell (p := ⟨w4.heap.size, 0, none⟩) (show w4.heap.size < _ by (try simp) <;> (try omega))]
    exact q17_2_0
  have q18_2_1 : w18.cell? ⟨w4.heap.size, 1, none⟩ = some (.int .i64 N.nodes) := by
    rw [hb18.cell (p := ⟨w4.heap.size, 1, none⟩) (show w4.heap.size < _ by (try simp) <;> (try omega))]
    exact q17_2_1
  have q18_2_2 : w18.cell? ⟨w4.heap.size, 2, none⟩ = some (.int .i64 N.term) := by
    rw [hb18.cell (p := ⟨w4.heap.size, 2, none⟩) (show w4.heap.size < _ by (try simp) <;> (try omega))]
    exact q17_2_2
  have q18_2_3 : w18.cell? ⟨w4.heap.size, 3, none⟩ = some (.int .i64 N.vote) := by
    rw [hb18.cell (p := ⟨w4.heap.size, 3, none⟩) (show w4.heap.size < _ by (try simp) <;> (try omega))]
    exact q17_2_3
  have q18_2_4 : w18.cell? ⟨w4.heap.size, 4, none⟩ = some (.int .i64 N.role) := by
    rw [hb18.cell (p := ⟨w4.heap.size, 4, none⟩) (show w4.heap.size < _ by (try simp) <;> (try omega))]
    exact q17_2_4
  have q18_2_5 : w18.cell? ⟨w4.heap.size, 5, none⟩ = some (.bool N.up) := by
    rw [hb18.cell (p := ⟨w4.heap.size, 5, none⟩) (show w4.heap.size < _ by (try simp) <;> (try omega))]
    exact q17_2_5
  have q18_2_6 : w18.cell? ⟨w4.heap.size, 6, none⟩ = some (.slice al4 N.log.length cl4) := by
    rw [hb18.cell (p := ⟨w4.heap.size, 6, none⟩) (show w4.heap.size < _ by (try simp) <;> (try omega))]
    exact q17_2_6
  have q18_2_7 : w18.cell? ⟨w4.heap.size, 7, none⟩ = some (.int .i64 N.commit) := by
    rw [hb18.cell (p := ⟨w4.heap.size, 7, none⟩) (show w4.heap.size < _ by (try simp) <;> (try omega))]
    exact q17_2_7
  have q18_2_8 : w18.cell? ⟨w4.heap.size, 8, none⟩ = some (.int .i64 N.elapsed) := by
    rw [hb18.cell (p := ⟨w4.heap.size, 8, none⟩) (show w4.heap.size < _ by (try simp) <;> (try omega))]
    exact q17_2_8
  have q18_2_9 : w18.cell? ⟨w4.heap.size, 9, none⟩ = some (.int .i64 N.wait) := by
    rw [hb18.cell (p := ⟨w4.heap.size, 9, none⟩) (show w4.heap.size < _ by (try simp) <;> (try omega))]
    exact q17_2_9
  have q18_2_10 : w18.cell? ⟨w4.heap.size, 10, none⟩ = some (.slice av4 N.votes.length cv4) := by
    rw [hb18.cell (p := ⟨w4.heap.size, 10, none⟩) (show w4.heap.size < _ by (try simp) <;> (try omega))]
    exact q17_2_10
  have q18_2_11 : w18.cell? ⟨w4.heap.size, 11, none⟩ = some (.slice an4 N.next.length cn4) := by
    rw [hb18.cell (p := ⟨w4.heap.size, 11, none⟩) (show w4.heap.size < _ by (try simp) <;> (try omega))]
    exact q17_2_11
  have q18_2_12 : w18.cell? ⟨w4.heap.size, 12, none⟩ = some (.slice am4 N.mtch.length cm4) := by
    rw [hb18.cell (p := ⟨w4.heap.size, 12, none⟩) (show w4.heap.size < _ by (try simp) <;> (try omega))]
    exact q17_2_12
  have hl18_2 : w4.heap.size < w18.heap.size := by omega
  clear q17_2_0 q17_2_1 q17_2_2 q17_2_3 q17_2_4 q17_2_5 q17_2_6 q17_2_7 q17_2_8 q17_2_9 q17_2_10 q17_2_11 q17_2_12
  have q18_3_0 : w18.cell? ⟨w5.heap.size, 0, none⟩ = some (.int .i64 M.id) := by
    rw [hb18.cell (p := ⟨w5.heap.size, 0, none⟩) (show w5.heap.size < _ by (try simp) <;> (try omega))]
    exact q17_3_0
  have q18_3_1 : w18.cell? ⟨w5.heap.size, 1, none⟩ = some (.int .i64 M.nodes) := by
    rw [hb18.cell (p := ⟨w5.heap.size, 1, none⟩) (show w5.heap.size < _ by (try simp) <;> (try omega))]
    exact q17_3_1
  have q18_3_2 : w18.cell? ⟨w5.heap.size, 2, none⟩ = some (.int .i64 M.term) := by
    rw [hb18.cell (p := ⟨w5.heap.size, 2, none⟩) (show w5.heap.size < _ by (try simp) <;> (try omega))]
    exact q17_3_2
  have q18_3_3 : w18.cell? ⟨w5.heap.size, 3, none⟩ = some (.int .i64 M.vote) := by
    rw [hb18.cell (p := ⟨w5.heap.size, 3, none⟩) (show w5.heap.size < _ by (try simp) <;> (try omega))]
    exact q17_3_3
  have q18_3_4 : w18.cell? ⟨w5.heap.size, 4, none⟩ = some (.int .i64 M.role) := by
    rw [hb18.cell (p := ⟨w5.heap.size, 4, none⟩) (show w5.heap.size < _ by (try simp) <;> (try omega))]
    exact q17_3_4
  have q18_3_5 : w18.cell? ⟨w5.heap.size, 5, none⟩ = some (.bool M.up) := by
    rw [hb18.cell (p := ⟨w5.heap.size, 5, none⟩) (show w5.heap.size < _ by (try simp) <;> (try omega))]
    exact q17_3_5
  have q18_3_6 : w18.cell? ⟨w5.heap.size, 6, none⟩ = some (.slice al5 M.log.length cl5) := by
    rw [hb18.cell (p := ⟨w5.heap.size, 6, none⟩) (show w5.heap.size < _ by (try simp) <;> (try omega))]
    exact q17_3_6
  have q18_3_7 : w18.cell? ⟨w5.heap.size, 7, none⟩ = some (.int .i64 M.commit) := by
    rw [hb18.cell (p := ⟨w5.heap.size, 7, none⟩) (show w5.heap.size < _ by (try simp) <;> (try omega))]
    exact q17_3_7
  have q18_3_8 : w18.cell? ⟨w5.heap.size, 8, none⟩ = some (.int .i64 M.elapsed) := by
    rw [hb18.cell (p := ⟨w5.heap.size, 8, none⟩) (show w5.heap.size < _ by (try simp) <;> (try omega))]
    exact q17_3_8
  have q18_3_9 : w18.cell? ⟨w5.heap.size, 9, none⟩ = some (.int .i64 M.wait) := by
    rw [hb18.cell (p := ⟨w5.heap.size, 9, none⟩) (show w5.heap.size < _ by (try simp) <;> (try omega))]
    exact q17_3_9
  have q18_3_10 : w18.cell? ⟨w5.heap.size, 10, none⟩ = some (.slice av5 M.votes.length cv5) := by
    rw [hb18.cell (p := ⟨w5.heap.size, 10, none⟩) (show w5.heap.size < _ by (try simp) <;> (try omega))]
    exact q17_3_10
  have q18_3_11 : w18.cell? ⟨w5.heap.size, 11, none⟩ = some (.slice an5 M.next.length cn5) := by
    rw [hb18.cell (p := ⟨w5.heap.size, 11, none⟩) (show w5.heap.size < _ by (try simp) <;> (try omega))]
    exact q17_3_11
  have q18_3_12 : w18.cell? ⟨w5.heap.size, 12, none⟩ = some (.slice am5 M.mtch.length cm5) := by
    rw [hb18.cell (p := ⟨w5.heap.size, 12, none⟩) (show w5.heap.size < _ by (try simp) <;> (try omega))]
    exact q17_3_12
  have hl18_3 : w5.heap.size < w18.heap.size := by omega
  clear q17_3_0 q17_3_1 q17_3_2 q17_3_3 q17_3_4 q17_3_5 q17_3_6 q17_3_7 q17_3_8 q17_3_9 q17_3_10 q17_3_11 q17_3_12
  have HB18 : Hid (Below w.heap.size w w18) := HB17.out.trans (hb18.mono (by (try simp) <;> (try omega)))
  clear hb18
  clear HX1718
  go_wp2_with fail
  refine (eqNode_same al18 cl18 av18 cv18 an18 cn18 am18 cm18 al3 cl3 av3 cv3 an3 cn3 am3 cm3 M _ ((HI18.out.alloc _).sl) ((HS18.out.alloc _).node) HZM.out).mono ?_
  rintro e w19 ⟨rfl, hb19⟩
  have hz19 := hb19.size
  simp only [World.size_alloc] at hz19
  have HS19 := Lib.hid ((HS18.out.alloc _).below hb19)
  clear HS18
  have HK19 := Lib.hid ((HK18.out.alloc _).below hb19)
  clear HK18
  have HJ19 := Lib.hid ((HJ18.out.alloc _).below hb19)
  clear HJ18
  have HI1819 := Lib.hid ((HI18.out.alloc _).below hb19)
  clear HI18
  have HY1819 := Lib.hid ((HY18.out.alloc _).below hb19)
  clear HY18
  have q19_0_0 : w19.cell? ⟨w.heap.size, 0, none⟩ = some (.int .i64 N.id) := by
    rw [hb19.cell (p := ⟨w.heap.size, 0, none⟩) (show w.heap.size < _ by (try simp) <;> (try omega))]
    first | assumption | (simp [go_sem, *])
  have q19_0_1 : w19.cell? ⟨w.heap.size, 1, none⟩ = some (.int .i64 N.nodes) := by
    rw [hb19.cell (p := ⟨w.heap.size, 1, none⟩) (show w.heap.size < _ by (try simp) <;> (try omega))]
    first | assumption | (simp [go_sem, *])
  have q19_0_2 : w19.cell? ⟨w.heap.size, 2, none⟩ = some (.int .i64 N.term) := by
    rw [hb19.cell (p := ⟨w.heap.size, 2, none⟩) (show w.heap.size < _ by (try simp) <;> (try omega))]
    first | assumption | (simp [go_sem, *])
  have q19_0_3 : w19.cell? ⟨w.heap.size, 3, none⟩ = some (.int .i64 N.vote) := by
    rw [hb19.cell (p := ⟨w.heap.size, 3, none⟩) (show w.heap.size < _ by (try simp) <;> (try omega))]
    first | assumption | (simp [go_sem, *])
  have q19_0_4 : w19.cell? ⟨w.heap.size, 4, none⟩ = some (.int .i64 N.role) := by
    rw [hb19.cell (p := ⟨w.heap.size, 4, none⟩) (show w.heap.size < _ by (try simp) <;> (try omega))]
    first | assumption | (simp [go_sem, *])
  have q19_0_5 : w19.cell? ⟨w.heap.size, 5, none⟩ = some (.bool N.up) := by
    rw [hb19.cell (p := ⟨w.heap.size, 5, none⟩) (show w.heap.size < _ by (try simp) <;> (try omega))]
    first | assumption | (simp [go_sem, *])
  have q19_0_6 : w19.cell? ⟨w.heap.size, 6, none⟩ = some (.slice al N.log.length cl) := by
    rw [hb19.cell (p := ⟨w.heap.size, 6, none⟩) (show w.heap.size < _ by (try simp) <;> (try omega))]
    first | assumption | (simp [go_sem, *])
  have q19_0_7 : w19.cell? ⟨w.heap.size, 7, none⟩ = some (.int .i64 N.commit) := by
    rw [hb19.cell (p := ⟨w.heap.size, 7, none⟩) (show w.heap.size < _ by (try simp) <;> (try omega))]
    first | assumption | (simp [go_sem, *])
  have q19_0_8 : w19.cell? ⟨w.heap.size, 8, none⟩ = some (.int .i64 N.elapsed) := by
    rw [hb19.cell (p := ⟨w.heap.size, 8, none⟩) (show w.heap.size < _ by (try simp) <;> (try omega))]
    first | assumption | (simp [go_sem, *])
  have q19_0_9 : w19.cell? ⟨w.heap.size, 9, none⟩ = some (.int .i64 N.wait) := by
    rw [hb19.cell (p := ⟨w.heap.size, 9, none⟩) (show w.heap.size < _ by (try simp) <;> (try omega))]
    first | assumption | (simp [go_sem, *])
  have q19_0_10 : w19.cell? ⟨w.heap.size, 10, none⟩ = some (.slice av N.votes.length cv) := by
    rw [hb19.cell (p := ⟨w.heap.size, 10, none⟩) (show w.heap.size < _ by (try simp) <;> (try omega))]
    first | assumption | (simp [go_sem, *])
  have q19_0_11 : w19.cell? ⟨w.heap.size, 11, none⟩ = some (.slice an N.next.length cn) := by
    rw [hb19.cell (p := ⟨w.heap.size, 11, none⟩) (show w.heap.size < _ by (try simp) <;> (try omega))]
    first | assumption | (simp [go_sem, *])
  have q19_0_12 : w19.cell? ⟨w.heap.size, 12, none⟩ = some (.slice am N.mtch.length cm) := by
    rw [hb19.cell (p := ⟨w.heap.size, 12, none⟩) (show w.heap.size < _ by (try simp) <;> (try omega))]
    first | assumption | (simp [go_sem, *])
  have hl19_0 : w.heap.size < w19.heap.size := by omega
  clear q18_0_0 q18_0_1 q18_0_2 q18_0_3 q18_0_4 q18_0_5 q18_0_6 q18_0_7 q18_0_8 q18_0_9 q18_0_10 q18_0_11 q18_0_12
  have q19_1_0 : w19.cell? ⟨w3.heap.size, 0, none⟩ = some (.int .i64 M.id) := by
    rw [hb19.cell (p := ⟨w3.heap.size, 0, none⟩) (show w3.heap.size < _ by (try simp) <;> (try omega))]
    first | assumption | (simp [go_sem, *])
  have q19_1_1 : w19.cell? ⟨w3.heap.size, 1, none⟩ = some (.int .i64 M.nodes) := by
    rw [hb19.cell (p := ⟨w3.heap.size, 1, none⟩) (show w3.heap.size < _ by (try simp) <;> (try omega))]
    first | assumption | (simp [go_sem, *])
  have q19_1_2 : w19.cell? ⟨w3.heap.size, 2, none⟩ = some (.int .i64 M.term) := by
    rw [hb19.cell (p := ⟨w3.heap.size, 2, none⟩) (show w3.heap.size < _ by (try simp) <;> (try omega))]
    first | assumption | (simp [go_sem, *])
  have q19_1_3 : w19.cell? ⟨w3.heap.size, 3, none⟩ = some (.int .i64 M.vote) := by
    rw [hb19.cell (p := ⟨w3.heap.size, 3, none⟩) (show w3.heap.size < _ by (try simp) <;> (try omega))]
    first | assumption | (simp [go_sem, *])
  have q19_1_4 : w19.cell? ⟨w3.heap.size, 4, none⟩ = some (.int .i64 M.role) := by
    rw [hb19.cell (p := ⟨w3.heap.size, 4, none⟩) (show w3.heap.size < _ by (try simp) <;> (try omega))]
    first | assumption | (simp [go_sem, *])
  have q19_1_5 : w19.cell? ⟨w3.heap.size, 5, none⟩ = some (.bool M.up) := by
    rw [hb19.cell (p := ⟨w3.heap.size, 5, none⟩) (show w3.heap.size < _ by (try simp) <;> (try omega))]
    first | assumption | (simp [go_sem, *])
  have q19_1_6 : w19.cell? ⟨w3.heap.size, 6, none⟩ = some (.slice al3 M.log.length cl3) := by
    rw [hb19.cell (p := ⟨w3.heap.size, 6, none⟩) (show w3.heap.size < _ by (try simp) <;> (try omega))]
    first | assumption | (simp [go_sem, *])
  have q19_1_7 : w19.cell? ⟨w3.heap.size, 7, none⟩ = some (.int .i64 M.commit) := by
    rw [hb19.cell (p := ⟨w3.heap.size, 7, none⟩) (show w3.heap.size < _ by (try simp) <;> (try omega))]
    first | assumption | (simp [go_sem, *])
  have q19_1_8 : w19.cell? ⟨w3.heap.size, 8, none⟩ = some (.int .i64 M.elapsed) := by
    rw [hb19.cell (p := ⟨w3.heap.size, 8, none⟩) (show w3.heap.size < _ by (try simp) <;> (try omega))]
    first | assumption | (simp [go_sem, *])
  have q19_1_9 : w19.cell? ⟨w3.heap.size, 9, none⟩ = some (.int .i64 M.wait) := by
    rw [hb19.cell (p := ⟨w3.heap.size, 9, none⟩) (show w3.heap.size < _ by (try simp) <;> (try omega))]
    first | assumption | (simp [go_sem, *])
  have q19_1_10 : w19.cell? ⟨w3.heap.size, 10, none⟩ = some (.slice av3 M.votes.length cv3) := by
    rw [hb19.cell (p := ⟨w3.heap.size, 10, none⟩) (show w3.heap.size < _ by (try simp) <;> (try omega))]
    first | assumption | (simp [go_sem, *])
  have q19_1_11 : w19.cell? ⟨w3.heap.size, 11, none⟩ = some (.slice an3 M.next.length cn3) := by
    rw [hb19.cell (p := ⟨w3.heap.size, 11, none⟩) (show w3.heap.size < _ by (try simp) <;> (try omega))]
    first | assumption | (simp [go_sem, *])
  have q19_1_12 : w19.cell? ⟨w3.heap.size, 12, none⟩ = some (.slice am3 M.mtch.length cm3) := by
    rw [hb19.cell (p := ⟨w3.heap.size, 12, none⟩) (show w3.heap.size < _ by (try simp) <;> (try omega))]
    first | assumption | (simp [go_sem, *])
  have hl19_1 : w3.heap.size < w19.heap.size := by omega
  clear q18_1_0 q18_1_1 q18_1_2 q18_1_3 q18_1_4 q18_1_5 q18_1_6 q18_1_7 q18_1_8 q18_1_9 q18_1_10 q18_1_11 q18_1_12
  have q19_2_0 : w19.cell? ⟨w4.heap.size, 0, none⟩ = some (.int .i64 N.id) := by
    rw [hb19.cell (p := ⟨w4.heap.size, 0, none⟩) (show w4.heap.size < _ by (try simp) <;> (try omega))]
    first | assumption | (simp [go_sem, *])
  have q19_2_1 : w19.cell? ⟨w4.heap.size, 1, none⟩ = some (.int .i64 N.nodes) := by
    rw [hb19.cell (p := ⟨w4.heap.size, 1, none⟩) (show w4.heap.size < _ by (try simp) <;> (try omega))]
    first | assumption | (simp [go_sem, *])
  have q19_2_2 : w19.cell? ⟨w4.heap.size, 2, none⟩ = some (.int .i64 N.term) := by
    rw [hb19.cell (p := ⟨w4.heap.size, 2, none⟩) (show w4.heap.size < _ by (try simp) <;> (try omega))]
    first | assumption | (simp [go_sem, *])
  have q19_2_3 : w19.cell? ⟨w4.heap.size, 3, none⟩ = some (.int .i64 N.vote) := by
    rw [hb19.cell (p := ⟨w4.heap.size, 3, none⟩) (show w4.heap.size < _ by (try simp) <;> (try omega))]
    first | assumption | (simp [go_sem, *])
  have q19_2_4 : w19.cell? ⟨w4.heap.size, 4, none⟩ = some (.int .i64 N.role) := by
    rw [hb19.cell (p := ⟨w4.heap.size, 4, none⟩) (show w4.heap.size < _ by (try simp) <;> (try omega))]
    first | assumption | (simp [go_sem, *])
  have q19_2_5 : w19.cell? ⟨w4.heap.size, 5, none⟩ = some (.bool N.up) := by
    rw [hb19.cell (p := ⟨w4.heap.size, 5, none⟩) (show w4.heap.size < _ by (try simp) <;> (try omega))]
    first | assumption | (simp [go_sem, *])
  have q19_2_6 : w19.cell? ⟨w4.heap.size, 6, none⟩ = some (.slice al4 N.log.length cl4) := by
    rw [hb19.cell (p := ⟨w4.heap.size, 6, none⟩) (show w4.heap.size < _ by (try simp) <;> (try omega))]
    first | assumption | (simp [go_sem, *])
  have q19_2_7 : w19.cell? ⟨w4.heap.size, 7, none⟩ = some (.int .i64 N.commit) := by
    rw [hb19.cell (p := ⟨w4.heap.size, 7, none⟩) (show w4.heap.size < _ by (try simp) <;> (try omega))]
    first | assumption | (simp [go_sem, *])
  have q19_2_8 : w19.cell? ⟨w4.heap.size, 8, none⟩ = some (.int .i64 N.elapsed) := by
    rw [hb19.cell (p := ⟨w4.heap.size, 8, none⟩) (show w4.heap.size < _ by (try simp) <;> (try omega))]
    first | assumption | (simp [go_sem, *])
  have q19_2_9 : w19.cell? ⟨w4.heap.size, 9, none⟩ = some (.int .i64 N.wait) := by
    rw [hb19.cell (p := ⟨w4.heap.size, 9, none⟩) (show w4.heap.size < _ by (try simp) <;> (try omega))]
    first | assumption | (simp [go_sem, *])
  have q19_2_10 : w19.cell? ⟨w4.heap.size, 10, none⟩ = some (.slice av4 N.votes.length cv4) := by
    rw [hb19.cell (p := ⟨w4.heap.size, 10, none⟩) (show w4.heap.size < _ by (try simp) <;> (try omega))]
    first | assumption | (simp [go_sem, *])
  have q19_2_11 : w19.cell? ⟨w4.heap.size, 11, none⟩ = some (.slice an4 N.next.length cn4) := by
    rw [hb19.cell (p := ⟨w4.heap.size, 11, none⟩) (show w4.heap.size < _ by (try simp) <;> (try omega))]
    first | assumption | (simp [go_sem, *])
  have q19_2_12 : w19.cell? ⟨w4.heap.size, 12, none⟩ = some (.slice am4 N.mtch.length cm4) := by
    rw [hb19.cell (p := ⟨w4.heap.size, 12, none⟩) (show w4.heap.size < _ by (try simp) <;> (try omega))]
    first | assumption | (simp [go_sem, *])
  have hl19_2 : w4.heap.size < w19.heap.size := by omega
  clear q18_2_0 q18_2_1 q18_2_2 q18_2_3 q18_2_4 q18_2_5 q18_2_6 q18_2_7 q18_2_8 q18_2_9 q18_2_10 q18_2_11 q18_2_12
  have q19_3_0 : w19.cell? ⟨w5.heap.size, 0, none⟩ = some (.int .i64 M.id) := by
    rw [hb19.cell (p := ⟨w5.heap.size, 0, none⟩) (show w5.heap.size < _ by (try simp) <;> (try omega))]
    first | assumption | (simp [go_sem, *])
  have q19_3_1 : w19.cell? ⟨w5.heap.size, 1, none⟩ = some (.int .i64 M.nodes) := by
    rw [hb19.cell (p := ⟨w5.heap.size, 1, none⟩) (show w5.heap.size < _ by (try simp) <;> (try omega))]
    first | assumption | (simp [go_sem, *])
  have q19_3_2 : w19.cell? ⟨w5.heap.size, 2, none⟩ = some (.int .i64 M.term) := by
    rw [hb19.cell (p := ⟨w5.heap.size, 2, none⟩) (show w5.heap.size < _ by (try simp) <;> (try omega))]
    first | assumption | (simp [go_sem, *])
  have q19_3_3 : w19.cell? ⟨w5.heap.size, 3, none⟩ = some (.int .i64 M.vote) := by
    rw [hb19.cell (p := ⟨w5.heap.size, 3, none⟩) (show w5.heap.size < _ by (try simp) <;> (try omega))]
    first | assumption | (simp [go_sem, *])
  have q19_3_4 : w19.cell? ⟨w5.heap.size, 4, none⟩ = some (.int .i64 M.role) := by
    rw [hb19.cell (p := ⟨w5.heap.size, 4, none⟩) (show w5.heap.size < _ by (try simp) <;> (try omega))]
    first | assumption | (simp [go_sem, *])
  have q19_3_5 : w19.cell? ⟨w5.heap.size, 5, none⟩ = some (.bool M.up) := by
    rw [hb19.cell (p := ⟨w5.heap.size, 5, none⟩) (show w5.heap.size < _ by (try simp) <;> (try omega))]
    first | assumption | (simp [go_sem, *])
  have q19_3_6 : w19.cell? ⟨w5.heap.size, 6, none⟩ = some (.slice al5 M.log.length cl5) := by
    rw [hb19.cell (p := ⟨w5.heap.size, 6, none⟩) (show w5.heap.size < _ by (try simp) <;> (try omega))]
    first | assumption | (simp [go_sem, *])
  have q19_3_7 : w19.cell? ⟨w5.heap.size, 7, none⟩ = some (.int .i64 M.commit) := by
    rw [hb19.cell (p := ⟨w5.heap.size, 7, none⟩) (show w5.heap.size < _ by (try simp) <;> (try omega))]
    first | assumption | (simp [go_sem, *])
  have q19_3_8 : w19.cell? ⟨w5.heap.size, 8, none⟩ = some (.int .i64 M.elapsed) := by
    rw [hb19.cell (p := ⟨w5.heap.size, 8, none⟩) (show w5.heap.size < _ by (try simp) <;> (try omega))]
    first | assumption | (simp [go_sem, *])
  have q19_3_9 : w19.cell? ⟨w5.heap.size, 9, none⟩ = some (.int .i64 M.wait) := by
    rw [hb19.cell (p := ⟨w5.heap.size, 9, none⟩) (show w5.heap.size < _ by (try simp) <;> (try omega))]
    first | assumption | (simp [go_sem, *])
  have q19_3_10 : w19.cell? ⟨w5.heap.size, 10, none⟩ = some (.slice av5 M.votes.length cv5) := by
    rw [hb19.cell (p := ⟨w5.heap.size, 10, none⟩) (show w5.heap.size < _ by (try simp) <;> (try omega))]
    first | assumption | (simp [go_sem, *])
  have q19_3_11 : w19.cell? ⟨w5.heap.size, 11, none⟩ = some (.slice an5 M.next.length cn5) := by
    rw [hb19.cell (p := ⟨w5.heap.size, 11, none⟩) (show w5.heap.size < _ by (try simp) <;> (try omega))]
    first | assumption | (simp [go_sem, *])
  have q19_3_12 : w19.cell? ⟨w5.heap.size, 12, none⟩ = some (.slice am5 M.mtch.length cm5) := by
    rw [hb19.cell (p := ⟨w5.heap.size, 12, none⟩) (show w5.heap.size < _ by (try simp) <;> (try omega))]
    first | assumption | (simp [go_sem, *])
  have hl19_3 : w5.heap.size < w19.heap.size := by omega
  clear q18_3_0 q18_3_1 q18_3_2 q18_3_3 q18_3_4 q18_3_5 q18_3_6 q18_3_7 q18_3_8 q18_3_9 q18_3_10 q18_3_11 q18_3_12
  have q19_4_0 : w19.cell? ⟨w18.heap.size, 0, none⟩ = some (.int .i64 M.id) := by
    rw [hb19.cell (p := ⟨w18.heap.size, 0, none⟩) (show w18.heap.size < _ by (try simp) <;> (try omega))]
    first | assumption | (simp [go_sem, *])
  have q19_4_1 : w19.cell? ⟨w18.heap.size, 1, none⟩ = some (.int .i64 M.nodes) := by
    rw [hb19.cell (p := ⟨w18.heap.size, 1, none⟩) (show w18.heap.size < _ by (try simp) <;> (try omega))]
    first | assumption | (simp [go_sem, *])
  have q19_4_2 : w19.cell? ⟨w18.heap.size, 2, none⟩ = some (.int .i64 M.term) := by
    rw [hb19.cell (p := ⟨w18.heap.size, 2, none⟩) (show w18.heap.size < _ by (try simp) <;> (try omega))]
    first | assumption | (simp [go_sem, *])
  have q19_4_3 : w19.cell? ⟨w18.heap.size, 3, none⟩ = some (.int .i64 M.vote) := by
    rw [hb19.cell (p := ⟨w18.heap.size, 3, none⟩) (show w18.heap.size < _ by (try simp) <;> (try omega))]
    first | assumption | (simp [go_sem, *])
  have q19_4_4 : w19.cell? ⟨w18.heap.size, 4, none⟩ = some (.int .i64 M.role) := by
    rw [hb19.cell (p := ⟨w18.heap.size, 4, none⟩) (show w18.heap.size < _ by (try simp) <;> (try omega))]
    first | assumption | (simp [go_sem, *])
  have q19_4_5 : w19.cell? ⟨w18.heap.size, 5, none⟩ = some (.bool M.up) := by
    rw [hb19.cell (p := ⟨w18.heap.size, 5, none⟩) (show w18.heap.size < _ by (try simp) <;> (try omega))]
    first | assumption | (simp [go_sem, *])
  have q19_4_6 : w19.cell? ⟨w18.heap.size, 6, none⟩ = some (.slice al18 M.log.length cl18) := by
    rw [hb19.cell (p := ⟨w18.heap.size, 6, none⟩) (show w18.heap.size < _ by (try simp) <;> (try omega))]
    first | assumption | (simp [go_sem, *])
  have q19_4_7 : w19.cell? ⟨w18.heap.size, 7, none⟩ = some (.int .i64 M.commit) := by
    rw [hb19.cell (p := ⟨w18.heap.size, 7, none⟩) (show w18.heap.size < _ by (try simp) <;> (try omega))]
    first | assumption | (simp [go_sem, *])
  have q19_4_8 : w19.cell? ⟨w18.heap.size, 8, none⟩ = some (.int .i64 M.elapsed) := by
    rw [hb19.cell (p := ⟨w18.heap.size, 8, none⟩) (show w18.heap.size < _ by (try simp) <;> (try omega))]
    first | assumption | (simp [go_sem, *])
  have q19_4_9 : w19.cell? ⟨w18.heap.size, 9, none⟩ = some (.int .i64 M.wait) := by
    rw [hb19.cell (p := ⟨w18.heap.size, 9, none⟩) (show w18.heap.size < _ by (try simp) <;> (try omega))]
    first | assumption | (simp [go_sem, *])
  have q19_4_10 : w19.cell? ⟨w18.heap.size, 10, none⟩ = some (.slice av18 M.votes.length cv18) := by
    rw [hb19.cell (p := ⟨w18.heap.size, 10, none⟩) (show w18.heap.size < _ by (try simp) <;> (try omega))]
    first | assumption | (simp [go_sem, *])
  have q19_4_11 : w19.cell? ⟨w18.heap.size, 11, none⟩ = some (.slice an18 M.next.length cn18) := by
    rw [hb19.cell (p := ⟨w18.heap.size, 11, none⟩) (show w18.heap.size < _ by (try simp) <;> (try omega))]
    first | assumption | (simp [go_sem, *])
  have q19_4_12 : w19.cell? ⟨w18.heap.size, 12, none⟩ = some (.slice am18 M.mtch.length cm18) := by
    rw [hb19.cell (p := ⟨w18.heap.size, 12, none⟩) (show w18.heap.size < _ by (try simp) <;> (try omega))]
    first | assumption | (simp [go_sem, *])
  have hl19_4 : w18.heap.size < w19.heap.size := by omega
  have HB19 : Hid (Below w.heap.size w w19) := (HB18.out.alloc (by (try simp) <;> (try omega)) _).trans (hb19.mono (by (try simp) <;> (try omega)))
  clear hb19
  go_wp2_with fail
  refine (eqMessageS_same ar18 ar3 cr18 cr3 rs18 rs3 _ (HY1819.out.s) (HS19.out.msgs) (HRS3.out.trans HRS18.out.symm) (msz HRS18.out HLS.out) (mlen HRS18.out HLL.out)).mono ?_
  rintro e w20 ⟨rfl, hb20⟩
  have hz20 := hb20.size
  have HS20 := Lib.hid (HS19.out.below hb20)
  clear HS19
  have HK20 := Lib.hid (HK19.out.below hb20)
  clear HK19
  have HJ20 := Lib.hid (HJ19.out.below hb20)
  clear HJ19
  have HI1820 := Lib.hid (HI1819.out.below hb20)
  clear HI1819
  have HY1820 := Lib.hid (HY1819.out.below hb20)
  clear HY1819
  have q20_0_0 : w20.cell? ⟨w.heap.size, 0, none⟩ = some (.int .i64 N.id) := by
    rw [hb20.cell (p := ⟨w.heap.size, 0, none⟩) (show w.heap.size < _ by (try simp) <;> (try omega))]
    exact q19_0_0
  have q20_0_1 : w20.cell? ⟨w.heap.size, 1, none⟩ = some (.int .i64 N.nodes) := by
    rw [hb20.cell (p := ⟨w.heap.size, 1, none⟩) (show w.heap.size < _ by (try simp) <;> (try omega))]
    exact q19_0_1
  have q20_0_2 : w20.cell? ⟨w.heap.size, 2, none⟩ = some (.int .i64 N.term) := by
    rw [hb20.cell (p := ⟨w.heap.size, 2, none⟩) (show w.heap.size < _ by (try simp) <;> (try omega))]
    exact q19_0_2
  have q20_0_3 : w20.cell? ⟨w.heap.size, 3, none⟩ = some (.int .i64 N.vote) := by
    rw [hb20.cell (p := ⟨w.heap.size, 3, none⟩) (show w.heap.size < _ by (try simp) <;> (try omega))]
    exact q19_0_3
  have q20_0_4 : w20.cell? ⟨w.heap.size, 4, none⟩ = some (.int .i64 N.role) := by
    rw [hb20.cell (p := ⟨w.heap.size, 4, none⟩) (show w.heap.size < _ by (try simp) <;> (try omega))]
    exact q19_0_4
  have q20_0_5 : w20.cell? ⟨w.heap.size, 5, none⟩ = some (.bool N.up) := by
    rw [hb20.cell (p := ⟨w.heap.size, 5, none⟩) (show w.heap.size < _ by (try simp) <;> (try omega))]
    exact q19_0_5
  have q20_0_6 : w20.cell? ⟨w.heap.size, 6, none⟩ = some (.slice al N.log.length cl) := by
    rw [hb20.cell (p := ⟨w.heap.size, 6, none⟩) (show w.heap.size < _ by (try simp) <;> (try omega))]
    exact q19_0_6
  have q20_0_7 : w20.cell? ⟨w.heap.size, 7, none⟩ = some (.int .i64 N.commit) := by
    rw [hb20.cell (p := ⟨w.heap.size, 7, none⟩) (show w.heap.size < _ by (try simp) <;> (try omega))]
    exact q19_0_7
  have q20_0_8 : w20.cell? ⟨w.heap.size, 8, none⟩ = some (.int .i64 N.elapsed) := by
    rw [hb20.cell (p := ⟨w.heap.size, 8, none⟩) (show w.heap.size < _ by (try simp) <;> (try omega))]
    exact q19_0_8
  have q20_0_9 : w20.cell? ⟨w.heap.size, 9, none⟩ = some (.int .i64 N.wait) := by
    rw [hb20.cell (p := ⟨w.heap.size, 9, none⟩) (show w.heap.size < _ by (try simp) <;> (try omega))]
    exact q19_0_9
  have q20_0_10 : w20.cell? ⟨w.heap.size, 10, none⟩ = some (.slice av N.votes.length cv) := by
    rw [hb20.cell (p := ⟨w.heap.size, 10, none⟩) (show w.heap.size < _ by (try simp) <;> (try omega))]
    exact q19_0_10
  have q20_0_11 : w20.cell? ⟨w.heap.size, 11, none⟩ = some (.slice an N.next.length cn) := by
    rw [hb20.cell (p := ⟨w.heap.size, 11, none⟩) (show w.heap.size < _ by (try simp) <;> (try omega))]
    exact q19_0_11
  have q20_0_12 : w20.cell? ⟨w.heap.size, 12, none⟩ = some (.slice am N.mtch.length cm) := by
    rw [hb20.cell (p := ⟨w.heap.size, 12, none⟩) (show w.heap.size < _ by (try simp) <;> (try omega))]
    exact q19_0_12
  have hl20_0 : w.heap.size < w20.heap.size := by omega
  clear q19_0_0 q19_0_1 q19_0_2 q19_0_3 q19_0_4 q19_0_5 q19_0_6 q19_0_7 q19_0_8 q19_0_9 q19_0_10 q19_0_11 q19_0_12
  have q20_1_0 : w20.cell? ⟨w3.heap.size, 0, none⟩ = some (.int .i64 M.id) := by
    rw [hb20.cell (p := ⟨w3.heap.size, 0, none⟩) (show w3.heap.size < _ by (try simp) <;> (try omega))]
    exact q19_1_0
  have q20_1_1 : w20.cell? ⟨w3.heap.size, 1, none⟩ = some (.int .i64 M.nodes) := by
    rw [hb20.cell (p := ⟨w3.heap.size, 1, none⟩) (show w3.heap.size < _ by (try simp) <;> (try omega))]
    exact q19_1_1
  have q20_1_2 : w20.cell? ⟨w3.heap.size, 2, none⟩ = some (.int .i64 M.term) := by
    rw [hb20.cell (p := ⟨w3.heap.size, 2, none⟩) (show w3.heap.size < _ by (try simp) <;> (try omega))]
    exact q19_1_2
  have q20_1_3 : w20.cell? ⟨w3.heap.size, 3, none⟩ = some (.int .i64 M.vote) := by
    rw [hb20.cell (p := ⟨w3.heap.size, 3, none⟩) (show w3.heap.size < _ by (try simp) <;> (try omega))]
    exact q19_1_3
  have q20_1_4 : w20.cell? ⟨w3.heap.size, 4, none⟩ = some (.int .i64 M.role) := by
    rw [hb20.cell (p := ⟨w3.heap.size, 4, none⟩) (show w3.heap.size < _ by (try simp) <;> (try omega))]
    exact q19_1_4
  have q20_1_5 : w20.cell? ⟨w3.heap.size, 5, none⟩ = some (.bool M.up) := by
    rw [hb20.cell (p := ⟨w3.heap.size, 5, none⟩) (show w3.heap.size < _ by (try simp) <;> (try omega))]
    exact q19_1_5
  have q20_1_6 : w20.cell? ⟨w3.heap.size, 6, none⟩ = some (.slice al3 M.log.length cl3) := by
    rw [hb20.cell (p := ⟨w3.heap.size, 6, none⟩) (show w3.heap.size < _ by (try simp) <;> (try omega))]
    exact q19_1_6
  have q20_1_7 : w20.cell? ⟨w3.heap.size, 7, none⟩ = some (.int .i64 M.commit) := by
    rw [hb20.cell (p := ⟨w3.heap.size, 7, none⟩) (show w3.heap.size < _ by (try simp) <;> (try omega))]
    exact q19_1_7
  have q20_1_8 : w20.cell? ⟨w3.heap.size, 8, none⟩ = some (.int .i64 M.elapsed) := by
    rw [hb20.cell (p := ⟨w3.heap.size, 8, none⟩) (show w3.heap.size < _ by (try simp) <;> (try omega))]
    exact q19_1_8
  have q20_1_9 : w20.cell? ⟨w3.heap.size, 9, none⟩ = some (.int .i64 M.wait) := by
    rw [hb20.cell (p := ⟨w3.heap.size, 9, none⟩) (show w3.heap.size < _ by (try simp) <;> (try omega))]
    exact q19_1_9
  have q20_1_10 : w20.cell? ⟨w3.heap.size, 10, none⟩ = some (.slice av3 M.votes.length cv3) := by
    rw [hb20.cell (p := ⟨w3.heap.size, 10, none⟩) (show w3.heap.size < _ by (try simp) <;> (try omega))]
    exact q19_1_10
  have q20_1_11 : w20.cell? ⟨w3.heap.size, 11, none⟩ = some (.slice an3 M.next.length cn3) := by
    rw [hb20.cell (p := ⟨w3.heap.size, 11, none⟩) (show w3.heap.size < _ by (try simp) <;> (try omega))]
    exact q19_1_11
  have q20_1_12 : w20.cell? ⟨w3.heap.size, 12, none⟩ = some (.slice am3 M.mtch.length cm3) := by
    rw [hb20.cell (p := ⟨w3.heap.size, 12, none⟩) (show w3.heap.size < _ by (try simp) <;> (try omega))]
    exact q19_1_12
  have hl20_1 : w3.heap.size < w20.heap.size := by omega
  clear q19_1_0 q19_1_1 q19_1_2 q19_1_3 q19_1_4 q19_1_5 q19_1_6 q19_1_7 q19_1_8 q19_1_9 q19_1_10 q19_1_11 q19_1_12
  have q20_2_0 : w20.cell? ⟨w4.heap.size, 0, none⟩ = some (.int .i64 N.id) := by
    rw [hb20.cell (p := ⟨w4.heap.size, 0, none⟩) (show w4.heap.size < _ by (try simp) <;> (try omega))]
    exact q19_2_0
  have q20_2_1 : w20.cell? ⟨w4.heap.size, 1, none⟩ = some (.int .i64 N.nodes) := by
    rw [hb20.cell (p := ⟨w4.heap.size, 1, none⟩) (show w4.heap.size < _ by (try simp) <;> (try omega))]
    exact q19_2_1
  have q20_2_2 : w20.cell? ⟨w4.heap.size, 2, none⟩ = some (.int .i64 N.term) := by
    rw [hb20.cell (p := ⟨w4.heap.size, 2, none⟩) (show w4.heap.size < _ by (try simp) <;> (try omega))]
    exact q19_2_2
  have q20_2_3 : w20.cell? ⟨w4.heap.size, 3, none⟩ = some (.int .i64 N.vote) := by
    rw [hb20.cell (p := ⟨w4.heap.size, 3, none⟩) (show w4.heap.size < _ by (try simp) <;> (try omega))]
    exact q19_2_3
  have q20_2_4 : w20.cell? ⟨w4.heap.size, 4, none⟩ = some (.int .i64 N.role) := by
    rw [hb20.cell (p := ⟨w4.heap.size, 4, none⟩) (show w4.heap.size < _ by (try simp) <;> (try omega))]
    exact q19_2_4
  have q20_2_5 : w20.cell? ⟨w4.heap.size, 5, none⟩ = some (.bool N.up) := by
    rw [hb20.cell (p := ⟨w4.heap.size, 5, none⟩) (show w4.heap.size < _ by (try simp) <;> (try omega))]
    exact q19_2_5
  have q20_2_6 : w20.cell? ⟨w4.heap.size, 6, none⟩ = some (.slice al4 N.log.length cl4) := by
    rw [hb20.cell (p := ⟨w4.heap.size, 6, none⟩) (show w4.heap.size < _ by (try simp) <;> (try omega))]
    exact q19_2_6
  have q20_2_7 : w20.cell? ⟨w4.heap.size, 7, none⟩ = some (.int .i64 N.commit) := by
    rw [hb20.cell (p := ⟨w4.heap.size, 7, none⟩) (show w4.heap.size < _ by (try simp) <;> (try omega))]
    exact q19_2_7
  have q20_2_8 : w20.cell? ⟨w4.heap.size, 8, none⟩ = some (.int .i64 N.elapsed) := by
    rw [hb20.cell (p := ⟨w4.heap.size, 8, none⟩) (show w4.heap.size < _ by (try simp) <;> (try omega))]
    exact q19_2_8
  have q20_2_9 : w20.cell? ⟨w4.heap.size, 9, none⟩ = some (.int .i64 N.wait) := by
    rw [hb20.cell (p := ⟨w4.heap.size, 9, none⟩) (show w4.heap.size < _ by (try simp) <;> (try omega))]
    exact q19_2_9
  have q20_2_10 : w20.cell? ⟨w4.heap.size, 10, none⟩ = some (.slice av4 N.votes.length cv4) := by
    rw [hb20.cell (p := ⟨w4.heap.size, 10, none⟩) (show w4.heap.size < _ by (try simp) <;> (try omega))]
    exact q19_2_10
  have q20_2_11 : w20.cell? ⟨w4.heap.size, 11, none⟩ = some (.slice an4 N.next.length cn4) := by
    rw [hb20.cell (p := ⟨w4.heap.size, 11, none⟩) (show w4.heap.size < _ by (try simp) <;> (try omega))]
    exact q19_2_11
  have q20_2_12 : w20.cell? ⟨w4.heap.size, 12, none⟩ = some (.slice am4 N.mtch.length cm4) := by
    rw [hb20.cell (p := ⟨w4.heap.size, 12, none⟩) (show w4.heap.size < _ by (try simp) <;> (try omega))]
    exact q19_2_12
  have hl20_2 : w4.heap.size < w20.heap.size := by omega
  clear q19_2_0 q19_2_1 q19_2_2 q19_2_3 q19_2_4 q19_2_5 q19_2_6 q19_2_7 q19_2_8 q19_2_9 q19_2_10 q19_2_11 q19_2_12
  have q20_3_0 : w20.cell? ⟨w5.heap.size, 0, none⟩ = some (.int .i64 M.id) := by
    rw [hb20.cell (p := ⟨w5.heap.size, 0, none⟩) (show w5.heap.size < _ by (try simp) <;> (try omega))]
    exact q19_3_0
  have q20_3_1 : w20.cell? ⟨w5.heap.size, 1, none⟩ = some (.int .i64 M.nodes) := by
    rw [hb20.cell (p := ⟨w5.heap.size, 1, none⟩) (show w5.heap.size < _ by (try simp) <;> (try omega))]
    exact q19_3_1
  have q20_3_2 : w20.cell? ⟨w5.heap.size, 2, none⟩ = some (.int .i64 M.term) := by
    rw [hb20.cell (p := ⟨w5.heap.size, 2, none⟩) (show w5.heap.size < _ by (try simp) <;> (try omega))]
    exact q19_3_2
  have q20_3_3 : w20.cell? ⟨w5.heap.size, 3, none⟩ = some (.int .i64 M.vote) := by
    rw [hb20.cell (p := ⟨w5.heap.size, 3, none⟩) (show w5.heap.size < _ by (try simp) <;> (try omega))]
    exact q19_3_3
  have q20_3_4 : w20.cell? ⟨w5.heap.size, 4, none⟩ = some (.int .i64 M.role) := by
    rw [hb20.cell (p := ⟨w5.heap.size, 4, none⟩) (show w5.heap.size < _ by (try simp) <;> (try omega))]
    exact q19_3_4
  have q20_3_5 : w20.cell? ⟨w5.heap.size, 5, none⟩ = some (.bool M.up) := by
    rw [hb20.cell (p := ⟨w5.heap.size, 5, none⟩) (show w5.heap.size < _ by (try simp) <;> (try omega))]
    exact q19_3_5
  have q20_3_6 : w20.cell? ⟨w5.heap.size, 6, none⟩ = some (.slice al5 M.log.length cl5) := by
    rw [hb20.cell (p := ⟨w5.heap.size, 6, none⟩) (show w5.heap.size < _ by (try simp) <;> (try omega))]
    exact q19_3_6
  have q20_3_7 : w20.cell? ⟨w5.heap.size, 7, none⟩ = some (.int .i64 M.commit) := by
    rw [hb20.cell (p := ⟨w5.heap.size, 7, none⟩) (show w5.heap.size < _ by (try simp) <;> (try omega))]
    exact q19_3_7
  have q20_3_8 : w20.cell? ⟨w5.heap.size, 8, none⟩ = some (.int .i64 M.elapsed) := by
    rw [hb20.cell (p := ⟨w5.heap.size, 8, none⟩) (show w5.heap.size < _ by (try simp) <;> (try omega))]
    exact q19_3_8
  have q20_3_9 : w20.cell? ⟨w5.heap.size, 9, none⟩ = some (.int .i64 M.wait) := by
    rw [hb20.cell (p := ⟨w5.heap.size, 9, none⟩) (show w5.heap.size < _ by (try simp) <;> (try omega))]
    exact q19_3_9
  have q20_3_10 : w20.cell? ⟨w5.heap.size, 10, none⟩ = some (.slice av5 M.votes.length cv5) := by
    rw [hb20.cell (p := ⟨w5.heap.size, 10, none⟩) (show w5.heap.size < _ by (try simp) <;> (try omega))]
    exact q19_3_10
  have q20_3_11 : w20.cell? ⟨w5.heap.size, 11, none⟩ = some (.slice an5 M.next.length cn5) := by
    rw [hb20.cell (p := ⟨w5.heap.size, 11, none⟩) (show w5.heap.size < _ by (try simp) <;> (try omega))]
    exact q19_3_11
  have q20_3_12 : w20.cell? ⟨w5.heap.size, 12, none⟩ = some (.slice am5 M.mtch.length cm5) := by
    rw [hb20.cell (p := ⟨w5.heap.size, 12, none⟩) (show w5.heap.size < _ by (try simp) <;> (try omega))]
    exact q19_3_12
  have hl20_3 : w5.heap.size < w20.heap.size := by omega
  clear q19_3_0 q19_3_1 q19_3_2 q19_3_3 q19_3_4 q19_3_5 q19_3_6 q19_3_7 q19_3_8 q19_3_9 q19_3_10 q19_3_11 q19_3_12
  have q20_4_0 : w20.cell? ⟨w18.heap.size, 0, none⟩ = some (.int .i64 M.id) := by
    rw [hb20.cell (p := ⟨w18.heap.size, 0, none⟩) (show w18.heap.size < _ by (try simp) <;> (try omega))]
    exact q19_4_0
  have q20_4_1 : w20.cell? ⟨w18.heap.size, 1, none⟩ = some (.int .i64 M.nodes) := by
    rw [hb20.cell (p := ⟨w18.heap.size, 1, none⟩) (show w18.heap.size < _ by (try simp) <;> (try omega))]
    exact q19_4_1
  have q20_4_2 : w20.cell? ⟨w18.heap.size, 2, none⟩ = some (.int .i64 M.term) := by
    rw [hb20.cell (p := ⟨w18.heap.size, 2, none⟩) (show w18.heap.size < _ by (try simp) <;> (try omega))]
    exact q19_4_2
  have q20_4_3 : w20.cell? ⟨w18.heap.size, 3, none⟩ = some (.int .i64 M.vote) := by
    rw [hb20.cell (p := ⟨w18.heap.size, 3, none⟩) (show w18.heap.size < _ by (try simp) <;> (try omega))]
    exact q19_4_3
  have q20_4_4 : w20.cell? ⟨w18.heap.size, 4, none⟩ = some (.int .i64 M.role) := by
    rw [hb20.cell (p := ⟨w18.heap.size, 4, none⟩) (show w18.heap.size < _ by (try simp) <;> (try omega))]
    exact q19_4_4
  have q20_4_5 : w20.cell? ⟨w18.heap.size, 5, none⟩ = some (.bool M.up) := by
    rw [hb20.cell (p := ⟨w18.heap.size, 5, none⟩) (show w18.heap.size < _ by (try simp) <;> (try omega))]
    exact q19_4_5
  have q20_4_6 : w20.cell? ⟨w18.heap.size, 6, none⟩ = some (.slice al18 M.log.length cl18) := by
    rw [hb20.cell (p := ⟨w18.heap.size, 6, none⟩) (show w18.heap.size < _ by (try simp) <;> (try omega))]
    exact q19_4_6
  have q20_4_7 : w20.cell? ⟨w18.heap.size, 7, none⟩ = some (.int .i64 M.commit) := by
    rw [hb20.cell (p := ⟨w18.heap.size, 7, none⟩) (show w18.heap.size < _ by (try simp) <;> (try omega))]
    exact q19_4_7
  have q20_4_8 : w20.cell? ⟨w18.heap.size, 8, none⟩ = some (.int .i64 M.elapsed) := by
    rw [hb20.cell (p := ⟨w18.heap.size, 8, none⟩) (show w18.heap.size < _ by (try simp) <;> (try omega))]
    exact q19_4_8
  have q20_4_9 : w20.cell? ⟨w18.heap.size, 9, none⟩ = some (.int .i64 M.wait) := by
    rw [hb20.cell (p := ⟨w18.heap.size, 9, none⟩) (show w18.heap.size < _ by (try simp) <;> (try omega))]
    exact q19_4_9
  have q20_4_10 : w20.cell? ⟨w18.heap.size, 10, none⟩ = some (.slice av18 M.votes.length cv18) := by
    rw [hb20.cell (p := ⟨w18.heap.size, 10, none⟩) (show w18.heap.size < _ by (try simp) <;> (try omega))]
    exact q19_4_10
  have q20_4_11 : w20.cell? ⟨w18.heap.size, 11, none⟩ = some (.slice an18 M.next.length cn18) := by
    rw [hb20.cell (p := ⟨w18.heap.size, 11, none⟩) (show w18.heap.size < _ by (try simp) <;> (try omega))]
    exact q19_4_11
  have q20_4_12 : w20.cell? ⟨w18.heap.size, 12, none⟩ = some (.slice am18 M.mtch.length cm18) := by
    rw [hb20.cell (p := ⟨w18.heap.size, 12, none⟩) (show w18.heap.size < _ by (try simp) <;> (try omega))]
    exact q19_4_12
  have hl20_4 : w18.heap.size < w20.heap.size := by omega
  clear q19_4_0 q19_4_1 q19_4_2 q19_4_3 q19_4_4 q19_4_5 q19_4_6 q19_4_7 q19_4_8 q19_4_9 q19_4_10 q19_4_11 q19_4_12
  have HB20 : Hid (Below w.heap.size w w20) := HB19.out.trans (hb20.mono (by (try simp) <;> (try omega)))
  clear hb20
  clear HI1820
  clear HY1820
  go_wp2_with fail
  refine (heldNodeX_c al5 cl5 av5 cv5 an5 cn5 am5 cm5 M 1 (w4.heap.size + 1) (md5) _ HK20.out HMK2.out).mono ?_
  rw [HK1.out]
  rintro e w21 ⟨rfl, hb21⟩
  have hz21 := hb21.size
  have HS21 := Lib.hid (HS20.out.below hb21)
  clear HS20
  have HK21 := Lib.hid (HK20.out.below hb21)
  clear HK20
  have HJ21 := Lib.hid (HJ20.out.below hb21)
  clear HJ20
  have q21_0_0 : w21.cell? ⟨w.heap.size, 0, none⟩ = some (.int .i64 N.id) := by
    rw [hb21.cell (p := ⟨w.heap.size, 0, none⟩) (show w.heap.size < _ by (try simp) <;> (try omega))]
    exact q20_0_0
  have q21_0_1 : w21.cell? ⟨w.heap.size, 1, none⟩ = some (.int .i64 N.nodes) := by
    rw [hb21.cell (p := ⟨w.heap.size, 1, none⟩) (show w.heap.size < _ by (try simp) <;> (try omega))]
    exact q20_0_1
  have q21_0_2 : w21.cell? ⟨w.heap.size, 2, none⟩ = some (.int .i64 N.term) := by
    rw [hb21.cell (p := ⟨w.heap.size, 2, none⟩) (show w.heap.size < _ by (try simp) <;> (try omega))]
    exact q20_0_2
  have q21_0_3 : w21.cell? ⟨w.heap.size, 3, none⟩ = some (.int .i64 N.vote) := by
    rw [hb21.cell (p := ⟨w.heap.size, 3, none⟩) (show w.heap.size < _ by (try simp) <;> (try omega))]
    exact q20_0_3
  have q21_0_4 : w21.cell? ⟨w.heap.size, 4, none⟩ = some (.int .i64 N.role) := by
    rw [hb21.cell (p := ⟨w.heap.size, 4, none⟩) (show w.heap.size < _ by (try simp) <;> (try omega))]
    exact q20_0_4
  have q21_0_5 : w21.cell? ⟨w.heap.size, 5, none⟩ = some (.bool N.up) := by
    rw [hb21.cell (p := ⟨w.heap.size, 5, none⟩) (show w.heap.size < _ by (try simp) <;> (try omega))]
    exact q20_0_5
  have q21_0_6 : w21.cell? ⟨w.heap.size, 6, none⟩ = some (.slice al N.log.length cl) := by
    rw [hb21.cell (p := ⟨w.heap.size, 6, none⟩) (show w.heap.size < _ by (try simp) <;> (try omega))]
    exact q20_0_6
  have q21_0_7 : w21.cell? ⟨w.heap.size, 7, none⟩ = some (.int .i64 N.commit) := by
    rw [hb21.cell (p := ⟨w.heap.size, 7, none⟩) (show w.heap.size < _ by (try simp) <;> (try omega))]
    exact q20_0_7
  have q21_0_8 : w21.cell? ⟨w.heap.size, 8, none⟩ = some (.int .i64 N.elapsed) := by
    rw [hb21.cell (p := ⟨w.heap.size, 8, none⟩) (show w.heap.size < _ by (try simp) <;> (try omega))]
    exact q20_0_8
  have q21_0_9 : w21.cell? ⟨w.heap.size, 9, none⟩ = some (.int .i64 N.wait) := by
    rw [hb21.cell (p := ⟨w.heap.size, 9, none⟩) (show w.heap.size < _ by (try simp) <;> (try omega))]
    exact q20_0_9
  have q21_0_10 : w21.cell? ⟨w.heap.size, 10, none⟩ = some (.slice av N.votes.length cv) := by
    rw [hb21.cell (p := ⟨w.heap.size, 10, none⟩) (show w.heap.size < _ by (try simp) <;> (try omega))]
    exact q20_0_10
  have q21_0_11 : w21.cell? ⟨w.heap.size, 11, none⟩ = some (.slice an N.next.length cn) := by
    rw [hb21.cell (p := ⟨w.heap.size, 11, none⟩) (show w.heap.size < _ by (try simp) <;> (try omega))]
    exact q20_0_11
  have q21_0_12 : w21.cell? ⟨w.heap.size, 12, none⟩ = some (.slice am N.mtch.length cm) := by
    rw [hb21.cell (p := ⟨w.heap.size, 12, none⟩) (show w.heap.size < _ by (try simp) <;> (try omega))]
    exact q20_0_12
  have hl21_0 : w.heap.size < w21.heap.size := by omega
  clear q20_0_0 q20_0_1 q20_0_2 q20_0_3 q20_0_4 q20_0_5 q20_0_6 q20_0_7 q20_0_8 q20_0_9 q20_0_10 q20_0_11 q20_0_12
  have q21_1_0 : w21.cell? ⟨w3.heap.size, 0, none⟩ = some (.int .i64 M.id) := by
    rw [hb21.cell (p := ⟨w3.heap.size, 0, none⟩) (show w3.heap.size < _ by (try simp) <;> (try omega))]
    exact q20_1_0
  have q21_1_1 : w21.cell? ⟨w3.heap.size, 1, none⟩ = some (.int .i64 M.nodes) := by
    rw [hb21.cell (p := ⟨w3.heap.size, 1, none⟩) (show w3.heap.size < _ by (try simp) <;> (try omega))]
    exact q20_1_1
  have q21_1_2 : w21.cell? ⟨w3.heap.size, 2, none⟩ = some (.int .i64 M.term) := by
    rw [hb21.cell (p := ⟨w3.heap.size, 2, none⟩) (show w3.heap.size < _ by (try simp) <;> (try omega))]
    exact q20_1_2
  have q21_1_3 : w21.cell? ⟨w3.heap.size, 3, none⟩ = some (.int .i64 M.vote) := by
    rw [hb21.cell (p := ⟨w3.heap.size, 3, none⟩) (show w3.heap.size < _ by (try simp) <;> (try omega))]
    exact q20_1_3
  have q21_1_4 : w21.cell? ⟨w3.heap.size, 4, none⟩ = some (.int .i64 M.role) := by
    rw [hb21.cell (p := ⟨w3.heap.size, 4, none⟩) (show w3.heap.size < _ by (try simp) <;> (try omega))]
    exact q20_1_4
  have q21_1_5 : w21.cell? ⟨w3.heap.size, 5, none⟩ = some (.bool M.up) := by
    rw [hb21.cell (p := ⟨w3.heap.size, 5, none⟩) (show w3.heap.size < _ by (try simp) <;> (try omega))]
    exact q20_1_5
  have q21_1_6 : w21.cell? ⟨w3.heap.size, 6, none⟩ = some (.slice al3 M.log.length cl3) := by
    rw [hb21.cell (p := ⟨w3.heap.size, 6, none⟩) (show w3.heap.size < _ by (try simp) <;> (try omega))]
    exact q20_1_6
  have q21_1_7 : w21.cell? ⟨w3.heap.size, 7, none⟩ = some (.int .i64 M.commit) := by
    rw [hb21.cell (p := ⟨w3.heap.size, 7, none⟩) (show w3.heap.size < _ by (try simp) <;> (try omega))]
    exact q20_1_7
  have q21_1_8 : w21.cell? ⟨w3.heap.size, 8, none⟩ = some (.int .i64 M.elapsed) := by
    rw [hb21.cell (p := ⟨w3.heap.size, 8, none⟩) (show w3.heap.size < _ by (try simp) <;> (try omega))]
    exact q20_1_8
  have q21_1_9 : w21.cell? ⟨w3.heap.size, 9, none⟩ = some (.int .i64 M.wait) := by
    rw [hb21.cell (p := ⟨w3.heap.size, 9, none⟩) (show w3.heap.size < _ by (try simp) <;> (try omega))]
    exact q20_1_9
  have q21_1_10 : w21.cell? ⟨w3.heap.size, 10, none⟩ = some (.slice av3 M.votes.length cv3) := by
    rw [hb21.cell (p := ⟨w3.heap.size, 10, none⟩) (show w3.heap.size < _ by (try simp) <;> (try omega))]
    exact q20_1_10
  have q21_1_11 : w21.cell? ⟨w3.heap.size, 11, none⟩ = some (.slice an3 M.next.length cn3) := by
    rw [hb21.cell (p := ⟨w3.heap.size, 11, none⟩) (show w3.heap.size < _ by (try simp) <;> (try omega))]
    exact q20_1_11
  have q21_1_12 : w21.cell? ⟨w3.heap.size, 12, none⟩ = some (.slice am3 M.mtch.length cm3) := by
    rw [hb21.cell (p := ⟨w3.heap.size, 12, none⟩) (show w3.heap.size < _ by (try simp) <;> (try omega))]
    exact q20_1_12
  have hl21_1 : w3.heap.size < w21.heap.size := by omega
  clear q20_1_0 q20_1_1 q20_1_2 q20_1_3 q20_1_4 q20_1_5 q20_1_6 q20_1_7 q20_1_8 q20_1_9 q20_1_10 q20_1_11 q20_1_12
  have q21_2_0 : w21.cell? ⟨w4.heap.size, 0, none⟩ = some (.int .i64 N.id) := by
    rw [hb21.cell (p := ⟨w4.heap.size, 0, none⟩) (show w4.heap.size < _ by (try simp) <;> (try omega))]
    exact q20_2_0
  have q21_2_1 : w21.cell? ⟨w4.heap.size, 1, none⟩ = some (.int .i64 N.nodes) := by
    rw [hb21.cell (p := ⟨w4.heap.size, 1, none⟩) (show w4.heap.size < _ by (try simp) <;> (try omega))]
    exact q20_2_1
  have q21_2_2 : w21.cell? ⟨w4.heap.size, 2, none⟩ = some (.int .i64 N.term) := by
    rw [hb21.cell (p := ⟨w4.heap.size, 2, none⟩) (show w4.heap.size < _ by (try simp) <;> (try omega))]
    exact q20_2_2
  have q21_2_3 : w21.cell? ⟨w4.heap.size, 3, none⟩ = some (.int .i64 N.vote) := by
    rw [hb21.cell (p := ⟨w4.heap.size, 3, none⟩) (show w4.heap.size < _ by (try simp) <;> (try omega))]
    exact q20_2_3
  have q21_2_4 : w21.cell? ⟨w4.heap.size, 4, none⟩ = some (.int .i64 N.role) := by
    rw [hb21.cell (p := ⟨w4.heap.size, 4, none⟩) (show w4.heap.size < _ by (try simp) <;> (try omega))]
    exact q20_2_4
  have q21_2_5 : w21.cell? ⟨w4.heap.size, 5, none⟩ = some (.bool N.up) := by
    rw [hb21.cell (p := ⟨w4.heap.size, 5, none⟩) (show w4.heap.size < _ by (try simp) <;> (try omega))]
    exact q20_2_5
  have q21_2_6 : w21.cell? ⟨w4.heap.size, 6, none⟩ = some (.slice al4 N.log.length cl4) := by
    rw [hb21.cell (p := ⟨w4.heap.size, 6, none⟩) (show w4.heap.size < _ by (try simp) <;> (try omega))]
    exact q20_2_6
  have q21_2_7 : w21.cell? ⟨w4.heap.size, 7, none⟩ = some (.int .i64 N.commit) := by
    rw [hb21.cell (p := ⟨w4.heap.size, 7, none⟩) (show w4.heap.size < _ by (try simp) <;> (try omega))]
    exact q20_2_7
  have q21_2_8 : w21.cell? ⟨w4.heap.size, 8, none⟩ = some (.int .i64 N.elapsed) := by
    rw [hb21.cell (p := ⟨w4.heap.size, 8, none⟩) (show w4.heap.size < _ by (try simp) <;> (try omega))]
    exact q20_2_8
  have q21_2_9 : w21.cell? ⟨w4.heap.size, 9, none⟩ = some (.int .i64 N.wait) := by
    rw [hb21.cell (p := ⟨w4.heap.size, 9, none⟩) (show w4.heap.size < _ by (try simp) <;> (try omega))]
    exact q20_2_9
  have q21_2_10 : w21.cell? ⟨w4.heap.size, 10, none⟩ = some (.slice av4 N.votes.length cv4) := by
    rw [hb21.cell (p := ⟨w4.heap.size, 10, none⟩) (show w4.heap.size < _ by (try simp) <;> (try omega))]
    exact q20_2_10
  have q21_2_11 : w21.cell? ⟨w4.heap.size, 11, none⟩ = some (.slice an4 N.next.length cn4) := by
    rw [hb21.cell (p := ⟨w4.heap.size, 11, none⟩) (show w4.heap.size < _ by (try simp) <;> (try omega))]
    exact q20_2_11
  have q21_2_12 : w21.cell? ⟨w4.heap.size, 12, none⟩ = some (.slice am4 N.mtch.length cm4) := by
    rw [hb21.cell (p := ⟨w4.heap.size, 12, none⟩) (show w4.heap.size < _ by (try simp) <;> (try omega))]
    exact q20_2_12
  have hl21_2 : w4.heap.size < w21.heap.size := by omega
  clear q20_2_0 q20_2_1 q20_2_2 q20_2_3 q20_2_4 q20_2_5 q20_2_6 q20_2_7 q20_2_8 q20_2_9 q20_2_10 q20_2_11 q20_2_12
  have q21_3_0 : w21.cell? ⟨w5.heap.size, 0, none⟩ = some (.int .i64 M.id) := by
    rw [hb21.cell (p := ⟨w5.heap.size, 0, none⟩) (show w5.heap.size < _ by (try simp) <;> (try omega))]
    exact q20_3_0
  have q21_3_1 : w21.cell? ⟨w5.heap.size, 1, none⟩ = some (.int .i64 M.nodes) := by
    rw [hb21.cell (p := ⟨w5.heap.size, 1, none⟩) (show w5.heap.size < _ by (try simp) <;> (try omega))]
    exact q20_3_1
  have q21_3_2 : w21.cell? ⟨w5.heap.size, 2, none⟩ = some (.int .i64 M.term) := by
    rw [hb21.cell (p := ⟨w5.heap.size, 2, none⟩) (show w5.heap.size < _ by (try simp) <;> (try omega))]
    exact q20_3_2
  have q21_3_3 : w21.cell? ⟨w5.heap.size, 3, none⟩ = some (.int .i64 M.vote) := by
    rw [hb21.cell (p := ⟨w5.heap.size, 3, none⟩) (show w5.heap.size < _ by (try simp) <;> (try omega))]
    exact q20_3_3
  have q21_3_4 : w21.cell? ⟨w5.heap.size, 4, none⟩ = some (.int .i64 M.role) := by
    rw [hb21.cell (p := ⟨w5.heap.size, 4, none⟩) (show w5.heap.size < _ by (try simp) <;> (try omega))]
    exact q20_3_4
  have q21_3_5 : w21.cell? ⟨w5.heap.size, 5, none⟩ = some (.bool M.up) := by
    rw [hb21.cell (p := ⟨w5.heap.size, 5, none⟩) (show w5.heap.size < _ by (try simp) <;> (try omega))]
    exact q20_3_5
  have q21_3_6 : w21.cell? ⟨w5.heap.size, 6, none⟩ = some (.slice al5 M.log.length cl5) := by
    rw [hb21.cell (p := ⟨w5.heap.size, 6, none⟩) (show w5.heap.size < _ by (try simp) <;> (try omega))]
    exact q20_3_6
  have q21_3_7 : w21.cell? ⟨w5.heap.size, 7, none⟩ = some (.int .i64 M.commit) := by
    rw [hb21.cell (p := ⟨w5.heap.size, 7, none⟩) (show w5.heap.size < _ by (try simp) <;> (try omega))]
    exact q20_3_7
  have q21_3_8 : w21.cell? ⟨w5.heap.size, 8, none⟩ = some (.int .i64 M.elapsed) := by
    rw [hb21.cell (p := ⟨w5.heap.size, 8, none⟩) (show w5.heap.size < _ by (try simp) <;> (try omega))]
    exact q20_3_8
  have q21_3_9 : w21.cell? ⟨w5.heap.size, 9, none⟩ = some (.int .i64 M.wait) := by
    rw [hb21.cell (p := ⟨w5.heap.size, 9, none⟩) (show w5.heap.size < _ by (try simp) <;> (try omega))]
    exact q20_3_9
  have q21_3_10 : w21.cell? ⟨w5.heap.size, 10, none⟩ = some (.slice av5 M.votes.length cv5) := by
    rw [hb21.cell (p := ⟨w5.heap.size, 10, none⟩) (show w5.heap.size < _ by (try simp) <;> (try omega))]
    exact q20_3_10
  have q21_3_11 : w21.cell? ⟨w5.heap.size, 11, none⟩ = some (.slice an5 M.next.length cn5) := by
    rw [hb21.cell (p := ⟨w5.heap.size, 11, none⟩) (show w5.heap.size < _ by (try simp) <;> (try omega))]
    exact q20_3_11
  have q21_3_12 : w21.cell? ⟨w5.heap.size, 12, none⟩ = some (.slice am5 M.mtch.length cm5) := by
    rw [hb21.cell (p := ⟨w5.heap.size, 12, none⟩) (show w5.heap.size < _ by (try simp) <;> (try omega))]
    exact q20_3_12
  have hl21_3 : w5.heap.size < w21.heap.size := by omega
  clear q20_3_0 q20_3_1 q20_3_2 q20_3_3 q20_3_4 q20_3_5 q20_3_6 q20_3_7 q20_3_8 q20_3_9 q20_3_10 q20_3_11 q20_3_12
  have q21_4_0 : w21.cell? ⟨w18.heap.size, 0, none⟩ = some (.int .i64 M.id) := by
    rw [hb21.cell (p := ⟨w18.heap.size, 0, none⟩) (show w18.heap.size < _ by (try simp) <;> (try omega))]
    exact q20_4_0
  have q21_4_1 : w21.cell? ⟨w18.heap.size, 1, none⟩ = some (.int .i64 M.nodes) := by
    rw [hb21.cell (p := ⟨w18.heap.size, 1, none⟩) (show w18.heap.size < _ by (try simp) <;> (try omega))]
    exact q20_4_1
  have q21_4_2 : w21.cell? ⟨w18.heap.size, 2, none⟩ = some (.int .i64 M.term) := by
    rw [hb21.cell (p := ⟨w18.heap.size, 2, none⟩) (show w18.heap.size < _ by (try simp) <;> (try omega))]
    exact q20_4_2
  have q21_4_3 : w21.cell? ⟨w18.heap.size, 3, none⟩ = some (.int .i64 M.vote) := by
    rw [hb21.cell (p := ⟨w18.heap.size, 3, none⟩) (show w18.heap.size < _ by (try simp) <;> (try omega))]
    exact q20_4_3
  have q21_4_4 : w21.cell? ⟨w18.heap.size, 4, none⟩ = some (.int .i64 M.role) := by
    rw [hb21.cell (p := ⟨w18.heap.size, 4, none⟩) (show w18.heap.size < _ by (try simp) <;> (try omega))]
    exact q20_4_4
  have q21_4_5 : w21.cell? ⟨w18.heap.size, 5, none⟩ = some (.bool M.up) := by
    rw [hb21.cell (p := ⟨w18.heap.size, 5, none⟩) (show w18.heap.size < _ by (try simp) <;> (try omega))]
    exact q20_4_5
  have q21_4_6 : w21.cell? ⟨w18.heap.size, 6, none⟩ = some (.slice al18 M.log.length cl18) := by
    rw [hb21.cell (p := ⟨w18.heap.size, 6, none⟩) (show w18.heap.size < _ by (try simp) <;> (try omega))]
    exact q20_4_6
  have q21_4_7 : w21.cell? ⟨w18.heap.size, 7, none⟩ = some (.int .i64 M.commit) := by
    rw [hb21.cell (p := ⟨w18.heap.size, 7, none⟩) (show w18.heap.size < _ by (try simp) <;> (try omega))]
    exact q20_4_7
  have q21_4_8 : w21.cell? ⟨w18.heap.size, 8, none⟩ = some (.int .i64 M.elapsed) := by
    rw [hb21.cell (p := ⟨w18.heap.size, 8, none⟩) (show w18.heap.size < _ by (try simp) <;> (try omega))]
    exact q20_4_8
  have q21_4_9 : w21.cell? ⟨w18.heap.size, 9, none⟩ = some (.int .i64 M.wait) := by
    rw [hb21.cell (p := ⟨w18.heap.size, 9, none⟩) (show w18.heap.size < _ by (try simp) <;> (try omega))]
    exact q20_4_9
  have q21_4_10 : w21.cell? ⟨w18.heap.size, 10, none⟩ = some (.slice av18 M.votes.length cv18) := by
    rw [hb21.cell (p := ⟨w18.heap.size, 10, none⟩) (show w18.heap.size < _ by (try simp) <;> (try omega))]
    exact q20_4_10
  have q21_4_11 : w21.cell? ⟨w18.heap.size, 11, none⟩ = some (.slice an18 M.next.length cn18) := by
    rw [hb21.cell (p := ⟨w18.heap.size, 11, none⟩) (show w18.heap.size < _ by (try simp) <;> (try omega))]
    exact q20_4_11
  have q21_4_12 : w21.cell? ⟨w18.heap.size, 12, none⟩ = some (.slice am18 M.mtch.length cm18) := by
    rw [hb21.cell (p := ⟨w18.heap.size, 12, none⟩) (show w18.heap.size < _ by (try simp) <;> (try omega))]
    exact q20_4_12
  have hl21_4 : w18.heap.size < w21.heap.size := by omega
  clear q20_4_0 q20_4_1 q20_4_2 q20_4_3 q20_4_4 q20_4_5 q20_4_6 q20_4_7 q20_4_8 q20_4_9 q20_4_10 q20_4_11 q20_4_12
  have HB21 : Hid (Below w.heap.size w w21) := HB20.out.trans (hb21.mono (by (try simp) <;> (try omega)))
  clear hb21
  go_wp2_with fail
  refine (heldMsgPE_c (md5) (w5.heap.size) cr5 K1 ar5 rs5 _ HJ21.out HK2b.out).mono ?_
  rw [HK2.out]
  rintro e w22 ⟨rfl, hb22⟩
  have hz22 := hb22.size
  have HS22 := Lib.hid (HS21.out.below hb22)
  clear HS21
  have HK22 := Lib.hid (HK21.out.below hb22)
  clear HK21
  have HJ22 := Lib.hid (HJ21.out.below hb22)
  clear HJ21
  have q22_0_0 : w22.cell? ⟨w.heap.size, 0, none⟩ = some (.int .i64 N.id) := by
    rw [hb22.cell (p := ⟨w.heap.size, 0, none⟩) (show w.heap.size < _ by (try simp) <;> (try omega))]
    exact q21_0_0
  have q22_0_1 : w22.cell? ⟨w.heap.size, 1, none⟩ = some (.int .i64 N.nodes) := by
    rw [hb22.cell (p := ⟨w.heap.size, 1, none⟩) (show w.heap.size < _ by (try simp) <;> (try omega))]
    exact q21_0_1
  have q22_0_2 : w22.cell? ⟨w.heap.size, 2, none⟩ = some (.int .i64 N.term) := by
    rw [hb22.cell (p := ⟨w.heap.size, 2, none⟩) (show w.heap.size < _ by (try simp) <;> (try omega))]
    exact q21_0_2
  have q22_0_3 : w22.cell? ⟨w.heap.size, 3, none⟩ = some (.int .i64 N.vote) := by
    rw [hb22.cell (p := ⟨w.heap.size, 3, none⟩) (show w.heap.size < _ by (try simp) <;> (try omega))]
    exact q21_0_3
  have q22_0_4 : w22.cell? ⟨w.heap.size, 4, none⟩ = some (.int .i64 N.role) := by
    rw [hb22.cell (p := ⟨w.heap.size, 4, none⟩) (show w.heap.size < _ by (try simp) <;> (try omega))]
    exact q21_0_4
  have q22_0_5 : w22.cell? ⟨w.heap.size, 5, none⟩ = some (.bool N.up) := by
    rw [hb22.cell (p := ⟨w.heap.size, 5, none⟩) (show w.heap.size < _ by (try simp) <;> (try omega))]
    exact q21_0_5
  have q22_0_6 : w22.cell? ⟨w.heap.size, 6, none⟩ = some (.slice al N.log.length cl) := by
    rw [hb22.cell (p := ⟨w.heap.size, 6, none⟩) (show w.heap.size < _ by (try simp) <;> (try omega))]
    exact q21_0_6
  have q22_0_7 : w22.cell? ⟨w.heap.size, 7, none⟩ = some (.int .i64 N.commit) := by
    rw [hb22.cell (p := ⟨w.heap.size, 7, none⟩) (show w.heap.size < _ by (try simp) <;> (try omega))]
    exact q21_0_7
  have q22_0_8 : w22.cell? ⟨w.heap.size, 8, none⟩ = some (.int .i64 N.elapsed) := by
    rw [hb22.cell (p := ⟨w.heap.size, 8, none⟩) (show w.heap.size < _ by (try simp) <;> (try omega))]
    exact q21_0_8
  have q22_0_9 : w22.cell? ⟨w.heap.size, 9, none⟩ = some (.int .i64 N.wait) := by
    rw [hb22.cell (p := ⟨w.heap.size, 9, none⟩) (show w.heap.size < _ by (try simp) <;> (try omega))]
    exact q21_0_9
  have q22_0_10 : w22.cell? ⟨w.heap.size, 10, none⟩ = some (.slice av N.votes.length cv) := by
    rw [hb22.cell (p := ⟨w.heap.size, 10, none⟩) (show w.heap.size < _ by (try simp) <;> (try omega))]
    exact q21_0_10
  have q22_0_11 : w22.cell? ⟨w.heap.size, 11, none⟩ = some (.slice an N.next.length cn) := by
    rw [hb22.cell (p := ⟨w.heap.size, 11, none⟩) (show w.heap.size < _ by (try simp) <;> (try omega))]
    exact q21_0_11
  have q22_0_12 : w22.cell? ⟨w.heap.size, 12, none⟩ = some (.slice am N.mtch.length cm) := by
    rw [hb22.cell (p := ⟨w.heap.size, 12, none⟩) (show w.heap.size < _ by (try simp) <;> (try omega))]
    exact q21_0_12
  have hl22_0 : w.heap.size < w22.heap.size := by omega
  clear q21_0_0 q21_0_1 q21_0_2 q21_0_3 q21_0_4 q21_0_5 q21_0_6 q21_0_7 q21_0_8 q21_0_9 q21_0_10 q21_0_11 q21_0_12
  have q22_1_0 : w22.cell? ⟨w3.heap.size, 0, none⟩ = some (.int .i64 M.id) := by
    rw [hb22.cell (p := ⟨w3.heap.size, 0, none⟩) (show w3.heap.size < _ by (try simp) <;> (try omega))]
    exact q21_1_0
  have q22_1_1 : w22.cell? ⟨w3.heap.size, 1, none⟩ = some (.int .i64 M.nodes) := by
    rw [hb22.cell (p := ⟨w3.heap.size, 1, none⟩) (show w3.heap.size < _ by (try simp) <;> (try omega))]
    exact q21_1_1
  have q22_1_2 : w22.cell? ⟨w3.heap.size, 2, none⟩ = some (.int .i64 M.term) := by
    rw [hb22.cell (p := ⟨w3.heap.size, 2, none⟩) (show w3.heap.size < _ by (try simp) <;> (try omega))]
    exact q21_1_2
  have q22_1_3 : w22.cell? ⟨w3.heap.size, 3, none⟩ = some (.int .i64 M.vote) := by
    rw [hb22.cell (p := ⟨w3.heap.size, 3, none⟩) (show w3.heap.size < _ by (try simp) <;> (try omega))]
    exact q21_1_3
  have q22_1_4 : w22.cell? ⟨w3.heap.size, 4, none⟩ = some (.int .i64 M.role) := by
    rw [hb22.cell (p := ⟨w3.heap.size, 4, none⟩) (show w3.heap.size < _ by (try simp) <;> (try omega))]
    exact q21_1_4
  have q22_1_5 : w22.cell? ⟨w3.heap.size, 5, none⟩ = some (.bool M.up) := by
    rw [hb22.cell (p := ⟨w3.heap.size, 5, none⟩) (show w3.heap.size < _ by (try simp) <;> (try omega))]
    exact q21_1_5
  have q22_1_6 : w22.cell? ⟨w3.heap.size, 6, none⟩ = some (.slice al3 M.log.length cl3) := by
    rw [hb22.cell (p := ⟨w3.heap.size, 6, none⟩) (show w3.heap.size < _ by (try simp) <;> (try omega))]
    exact q21_1_6
  have q22_1_7 : w22.cell? ⟨w3.heap.size, 7, none⟩ = some (.int .i64 M.commit) := by
    rw [hb22.cell (p := ⟨w3.heap.size, 7, none⟩) (show w3.heap.size < _ by (try simp) <;> (try omega))]
    exact q21_1_7
  have q22_1_8 : w22.cell? ⟨w3.heap.size, 8, none⟩ = some (.int .i64 M.elapsed) := by
    rw [hb22.cell (p := ⟨w3.heap.size, 8, none⟩) (show w3.heap.size < _ by (try simp) <;> (try omega))]
    exact q21_1_8
  have q22_1_9 : w22.cell? ⟨w3.heap.size, 9, none⟩ = some (.int .i64 M.wait) := by
    rw [hb22.cell (p := ⟨w3.heap.size, 9, none⟩) (show w3.heap.size < _ by (try simp) <;> (try omega))]
    exact q21_1_9
  have q22_1_10 : w22.cell? ⟨w3.heap.size, 10, none⟩ = some (.slice av3 M.votes.length cv3) := by
    rw [hb22.cell (p := ⟨w3.heap.size, 10, none⟩) (show w3.heap.size < _ by (try simp) <;> (try omega))]
    exact q21_1_10
  have q22_1_11 : w22.cell? ⟨w3.heap.size, 11, none⟩ = some (.slice an3 M.next.length cn3) := by
    rw [hb22.cell (p := ⟨w3.heap.size, 11, none⟩) (show w3.heap.size < _ by (try simp) <;> (try omega))]
    exact q21_1_11
  have q22_1_12 : w22.cell? ⟨w3.heap.size, 12, none⟩ = some (.slice am3 M.mtch.length cm3) := by
    rw [hb22.cell (p := ⟨w3.heap.size, 12, none⟩) (show w3.heap.size < _ by (try simp) <;> (try omega))]
    exact q21_1_12
  have hl22_1 : w3.heap.size < w22.heap.size := by omega
  clear q21_1_0 q21_1_1 q21_1_2 q21_1_3 q21_1_4 q21_1_5 q21_1_6 q21_1_7 q21_1_8 q21_1_9 q21_1_10 q21_1_11 q21_1_12
  have q22_2_0 : w22.cell? ⟨w4.heap.size, 0, none⟩ = some (.int .i64 N.id) := by
    rw [hb22.cell (p := ⟨w4.heap.size, 0, none⟩) (show w4.heap.size < _ by (try simp) <;> (try omega))]
    exact q21_2_0
  have q22_2_1 : w22.cell? ⟨w4.heap.size, 1, none⟩ = some (.int .i64 N.nodes) := by
    rw [hb22.cell (p := ⟨w4.heap.size, 1, none⟩) (show w4.heap.size < _ by (try simp) <;> (try omega))]
    exact q21_2_1
  have q22_2_2 : w22.cell? ⟨w4.heap.size, 2, none⟩ = some (.int .i64 N.term) := by
    rw [hb22.cell (p := ⟨w4.heap.size, 2, none⟩) (show w4.heap.size < _ by (try simp) <;> (try omega))]
    exact q21_2_2
  have q22_2_3 : w22.cell? ⟨w4.heap.size, 3, none⟩ = some (.int .i64 N.vote) := by
    rw [hb22.cell (p := ⟨w4.heap.size, 3, none⟩) (show w4.heap.size < _ by (try simp) <;> (try omega))]
    exact q21_2_3
  have q22_2_4 : w22.cell? ⟨w4.heap.size, 4, none⟩ = some (.int .i64 N.role) := by
    rw [hb22.cell (p := ⟨w4.heap.size, 4, none⟩) (show w4.heap.size < _ by (try simp) <;> (try omega))]
    exact q21_2_4
  have q22_2_5 : w22.cell? ⟨w4.heap.size, 5, none⟩ = some (.bool N.up) := by
    rw [hb22.cell (p := ⟨w4.heap.size, 5, none⟩) (show w4.heap.size < _ by (try simp) <;> (try omega))]
    exact q21_2_5
  have q22_2_6 : w22.cell? ⟨w4.heap.size, 6, none⟩ = some (.slice al4 N.log.length cl4) := by
    rw [hb22.cell (p := ⟨w4.heap.size, 6, none⟩) (show w4.heap.size < _ by (try simp) <;> (try omega))]
    exact q21_2_6
  have q22_2_7 : w22.cell? ⟨w4.heap.size, 7, none⟩ = some (.int .i64 N.commit) := by
    rw [hb22.cell (p := ⟨w4.heap.size, 7, none⟩) (show w4.heap.size < _ by (try simp) <;> (try omega))]
    exact q21_2_7
  have q22_2_8 : w22.cell? ⟨w4.heap.size, 8, none⟩ = some (.int .i64 N.elapsed) := by
    rw [hb22.cell (p := ⟨w4.heap.size, 8, none⟩) (show w4.heap.size < _ by (try simp) <;> (try omega))]
    exact q21_2_8
  have q22_2_9 : w22.cell? ⟨w4.heap.size, 9, none⟩ = some (.int .i64 N.wait) := by
    rw [hb22.cell (p := ⟨w4.heap.size, 9, none⟩) (show w4.heap.size < _ by (try simp) <;> (try omega))]
    exact q21_2_9
  have q22_2_10 : w22.cell? ⟨w4.heap.size, 10, none⟩ = some (.slice av4 N.votes.length cv4) := by
    rw [hb22.cell (p := ⟨w4.heap.size, 10, none⟩) (show w4.heap.size < _ by (try simp) <;> (try omega))]
    exact q21_2_10
  have q22_2_11 : w22.cell? ⟨w4.heap.size, 11, none⟩ = some (.slice an4 N.next.length cn4) := by
    rw [hb22.cell (p := ⟨w4.heap.size, 11, none⟩) (show w4.heap.size < _ by (try simp) <;> (try omega))]
    exact q21_2_11
  have q22_2_12 : w22.cell? ⟨w4.heap.size, 12, none⟩ = some (.slice am4 N.mtch.length cm4) := by
    rw [hb22.cell (p := ⟨w4.heap.size, 12, none⟩) (show w4.heap.size < _ by (try simp) <;> (try omega))]
    exact q21_2_12
  have hl22_2 : w4.heap.size < w22.heap.size := by omega
  clear q21_2_0 q21_2_1 q21_2_2 q21_2_3 q21_2_4 q21_2_5 q21_2_6 q21_2_7 q21_2_8 q21_2_9 q21_2_10 q21_2_11 q21_2_12
  have q22_3_0 : w22.cell? ⟨w5.heap.size, 0, none⟩ = some (.int .i64 M.id) := by
    rw [hb22.cell (p := ⟨w5.heap.size, 0, none⟩) (show w5.heap.size < _ by (try simp) <;> (try omega))]
    exact q21_3_0
  have q22_3_1 : w22.cell? ⟨w5.heap.size, 1, none⟩ = some (.int .i64 M.nodes) := by
    rw [hb22.cell (p := ⟨w5.heap.size, 1, none⟩) (show w5.heap.size < _ by (try simp) <;> (try omega))]
    exact q21_3_1
  have q22_3_2 : w22.cell? ⟨w5.heap.size, 2, none⟩ = some (.int .i64 M.term) := by
    rw [hb22.cell (p := ⟨w5.heap.size, 2, none⟩) (show w5.heap.size < _ by (try simp) <;> (try omega))]
    exact q21_3_2
  have q22_3_3 : w22.cell? ⟨w5.heap.size, 3, none⟩ = some (.int .i64 M.vote) := by
    rw [hb22.cell (p := ⟨w5.heap.size, 3, none⟩) (show w5.heap.size < _ by (try simp) <;> (try omega))]
    exact q21_3_3
  have q22_3_4 : w22.cell? ⟨w5.heap.size, 4, none⟩ = some (.int .i64 M.role) := by
    rw [hb22.cell (p := ⟨w5.heap.size, 4, none⟩) (show w5.heap.size < _ by (try simp) <;> (try omega))]
    exact q21_3_4
  have q22_3_5 : w22.cell? ⟨w5.heap.size, 5, none⟩ = some (.bool M.up) := by
    rw [hb22.cell (p := ⟨w5.heap.size, 5, none⟩) (show w5.heap.size < _ by (try simp) <;> (try omega))]
    exact q21_3_5
  have q22_3_6 : w22.cell? ⟨w5.heap.size, 6, none⟩ = some (.slice al5 M.log.length cl5) := by
    rw [hb22.cell (p := ⟨w5.heap.size, 6, none⟩) (show w5.heap.size < _ by (try simp) <;> (try omega))]
    exact q21_3_6
  have q22_3_7 : w22.cell? ⟨w5.heap.size, 7, none⟩ = some (.int .i64 M.commit) := by
    rw [hb22.cell (p := ⟨w5.heap.size, 7, none⟩) (show w5.heap.size < _ by (try simp) <;> (try omega))]
    exact q21_3_7
  have q22_3_8 : w22.cell? ⟨w5.heap.size, 8, none⟩ = some (.int .i64 M.elapsed) := by
    rw [hb22.cell (p := ⟨w5.heap.size, 8, none⟩) (show w5.heap.size < _ by (try simp) <;> (try omega))]
    exact q21_3_8
  have q22_3_9 : w22.cell? ⟨w5.heap.size, 9, none⟩ = some (.int .i64 M.wait) := by
    rw [hb22.cell (p := ⟨w5.heap.size, 9, none⟩) (show w5.heap.size < _ by (try simp) <;> (try omega))]
    exact q21_3_9
  have q22_3_10 : w22.cell? ⟨w5.heap.size, 10, none⟩ = some (.slice av5 M.votes.length cv5) := by
    rw [hb22.cell (p := ⟨w5.heap.size, 10, none⟩) (show w5.heap.size < _ by (try simp) <;> (try omega))]
    exact q21_3_10
  have q22_3_11 : w22.cell? ⟨w5.heap.size, 11, none⟩ = some (.slice an5 M.next.length cn5) := by
    rw [hb22.cell (p := ⟨w5.heap.size, 11, none⟩) (show w5.heap.size < _ by (try simp) <;> (try omega))]
    exact q21_3_11
  have q22_3_12 : w22.cell? ⟨w5.heap.size, 12, none⟩ = some (.slice am5 M.mtch.length cm5) := by
    rw [hb22.cell (p := ⟨w5.heap.size, 12, none⟩) (show w5.heap.size < _ by (try simp) <;> (try omega))]
    exact q21_3_12
  have hl22_3 : w5.heap.size < w22.heap.size := by omega
  clear q21_3_0 q21_3_1 q21_3_2 q21_3_3 q21_3_4 q21_3_5 q21_3_6 q21_3_7 q21_3_8 q21_3_9 q21_3_10 q21_3_11 q21_3_12
  have q22_4_0 : w22.cell? ⟨w18.heap.size, 0, none⟩ = some (.int .i64 M.id) := by
    rw [hb22.cell (p := ⟨w18.heap.size, 0, none⟩) (show w18.heap.size < _ by (try simp) <;> (try omega))]
    exact q21_4_0
  have q22_4_1 : w22.cell? ⟨w18.heap.size, 1, none⟩ = some (.int .i64 M.nodes) := by
    rw [hb22.cell (p := ⟨w18.heap.size, 1, none⟩) (show w18.heap.size < _ by (try simp) <;> (try omega))]
    exact q21_4_1
  have q22_4_2 : w22.cell? ⟨w18.heap.size, 2, none⟩ = some (.int .i64 M.term) := by
    rw [hb22.cell (p := ⟨w18.heap.size, 2, none⟩) (show w18.heap.size < _ by (try simp) <;> (try omega))]
    exact q21_4_2
  have q22_4_3 : w22.cell? ⟨w18.heap.size, 3, none⟩ = some (.int .i64 M.vote) := by
    rw [hb22.cell (p := ⟨w18.heap.size, 3, none⟩) (show w18.heap.size < _ by (try simp) <;> (try omega))]
    exact q21_4_3
  have q22_4_4 : w22.cell? ⟨w18.heap.size, 4, none⟩ = some (.int .i64 M.role) := by
    rw [hb22.cell (p := ⟨w18.heap.size, 4, none⟩) (show w18.heap.size < _ by (try simp) <;> (try omega))]
    exact q21_4_4
  have q22_4_5 : w22.cell? ⟨w18.heap.size, 5, none⟩ = some (.bool M.up) := by
    rw [hb22.cell (p := ⟨w18.heap.size, 5, none⟩) (show w18.heap.size < _ by (try simp) <;> (try omega))]
    exact q21_4_5
  have q22_4_6 : w22.cell? ⟨w18.heap.size, 6, none⟩ = some (.slice al18 M.log.length cl18) := by
    rw [hb22.cell (p := ⟨w18.heap.size, 6, none⟩) (show w18.heap.size < _ by (try simp) <;> (try omega))]
    exact q21_4_6
  have q22_4_7 : w22.cell? ⟨w18.heap.size, 7, none⟩ = some (.int .i64 M.commit) := by
    rw [hb22.cell (p := ⟨w18.heap.size, 7, none⟩) (show w18.heap.size < _ by (try simp) <;> (try omega))]
    exact q21_4_7
  have q22_4_8 : w22.cell? ⟨w18.heap.size, 8, none⟩ = some (.int .i64 M.elapsed) := by
    rw [hb22.cell (p := ⟨w18.heap.size, 8, none⟩) (show w18.heap.size < _ by (try simp) <;> (try omega))]
    exact q21_4_8
  have q22_4_9 : w22.cell? ⟨w18.heap.size, 9, none⟩ = some (.int .i64 M.wait) := by
    rw [hb22.cell (p := ⟨w18.heap.size, 9, none⟩) (show w18.heap.size < _ by (try simp) <;> (try omega))]
    exact q21_4_9
  have q22_4_10 : w22.cell? ⟨w18.heap.size, 10, none⟩ = some (.slice av18 M.votes.length cv18) := by
    rw [hb22.cell (p := ⟨w18.heap.size, 10, none⟩) (show w18.heap.size < _ by (try simp) <;> (try omega))]
    exact q21_4_10
  have q22_4_11 : w22.cell? ⟨w18.heap.size, 11, none⟩ = some (.slice an18 M.next.length cn18) := by
    rw [hb22.cell (p := ⟨w18.heap.size, 11, none⟩) (show w18.heap.size < _ by (try simp) <;> (try omega))]
    exact q21_4_11
  have q22_4_12 : w22.cell? ⟨w18.heap.size, 12, none⟩ = some (.slice am18 M.mtch.length cm18) := by
    rw [hb22.cell (p := ⟨w18.heap.size, 12, none⟩) (show w18.heap.size < _ by (try simp) <;> (try omega))]
    exact q21_4_12
  have hl22_4 : w18.heap.size < w22.heap.size := by omega
  clear q21_4_0 q21_4_1 q21_4_2 q21_4_3 q21_4_4 q21_4_5 q21_4_6 q21_4_7 q21_4_8 q21_4_9 q21_4_10 q21_4_11 q21_4_12
  have HB22 : Hid (Below w.heap.size w w22) := HB21.out.trans (hb22.mono (by (try simp) <;> (try omega)))
  clear hb22
  go_wp2_with fail
  go_ret
  exact ⟨rfl, HB22.out⟩
end
end Go.Proofs.Ytcakldgbhjkkfaa
