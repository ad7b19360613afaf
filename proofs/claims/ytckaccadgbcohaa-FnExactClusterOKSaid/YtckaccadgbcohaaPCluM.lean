/- impl.ClusterOK returns what spec.ClusterOK returns: the law FnExactClusterOK returns true for every cluster, and its argument reads afterwards as it read before. No conditions. -/
import Derived.Test.YtckaccadgbcohaaCluY
import Derived.Test.YtckaccadgbcohaaCluX
import Derived.Deep.RegionHeld3
import Derived.Test.YtckaccadgbcohaaFrmC
namespace Go.Proofs.Ytckaccadgbcohaa
set_option linter.unusedVariables false
set_option linter.unusedSimpArgs false
section
open Go.RowKit
set_option maxRecDepth 100000 in
set_option maxHeartbeats 16000000 in
theorem lawCluOK_c (C : CluA) (w : World) (hC : CluOK w C) (hZ : CluSz C 9223372036854775807) :
    Calls Try.prog 3 #[.agg #[.slice C.an C.nodes.length C.cn, .slice C.ast C.stores.length C.cst, .slice C.aw C.wire.length C.cw, .slice C.ad C.done.length C.cd]] w fun e w' => e = .returned (.bool true) ∧ Below w.heap.size w w' := by
  have HZ0 := Lib.hid hZ
  clear hZ
  obtain ⟨V, hV⟩ : ∃ V, cluOK C = V := ⟨_, rfl⟩
  have HV := Lib.hid hV
  clear hV
  go_enter Try.func3, Try.ntmps3
  go_wp2_with fail
  refine (szCluster_c C _ _ (hC.alloc _) HZ0.out (by omega) (by omega)).mono ?_
  rintro e w1 ⟨⟨n, rfl, hn, himp⟩, hb1⟩
  have hz1 := hb1.size
  simp only [World.size_alloc] at hz1
  have HI := Lib.hid himp
  clear himp
  have q1_0_0 : w1.cell? ⟨w.heap.size, 0, none⟩ = some (.slice C.an C.nodes.length C.cn) := by
    rw [hb1.cell (p := ⟨w.heap.size, 0, none⟩) (show w.heap.size < _ by (try simp) <;> (try omega))]
    first | assumption | (simp [go_sem, *])
  have q1_0_1 : w1.cell? ⟨w.heap.size, 1, none⟩ = some (.slice C.ast C.stores.length C.cst) := by
    rw [hb1.cell (p := ⟨w.heap.size, 1, none⟩) (show w.heap.size < _ by (try simp) <;> (try omega))]
    first | assumption | (simp [go_sem, *])
  have q1_0_2 : w1.cell? ⟨w.heap.size, 2, none⟩ = some (.slice C.aw C.wire.length C.cw) := by
    rw [hb1.cell (p := ⟨w.heap.size, 2, none⟩) (show w.heap.size < _ by (try simp) <;> (try omega))]
    first | assumption | (simp [go_sem, *])
  have q1_0_3 : w1.cell? ⟨w.heap.size, 3, none⟩ = some (.slice C.ad C.done.length C.cd) := by
    rw [hb1.cell (p := ⟨w.heap.size, 3, none⟩) (show w.heap.size < _ by (try simp) <;> (try omega))]
    first | assumption | (simp [go_sem, *])
  have hl1_0 : w.heap.size < w1.heap.size := by omega
  have HB1 : Hid (Below w.heap.size w w1) := ((Below.refl w.heap.size w).alloc (by (try simp) <;> (try omega)) _).trans (hb1.mono (by (try simp) <;> (try omega)))
  clear hb1
  by_cases hneg : n < 0
  · go_wp2_with fail
    go_ret
    exact ⟨rfl, HB1.out⟩
  have HZ := Lib.hid (HI.out (by omega))
  clear HI
  go_wp2_with fail
  refine (toCluster2_c C _ (hC.keep HB1.out) HZ.out).mono ?_
  rintro e w2 ⟨D2, rfl, he2, hf2, hcap2, hb2⟩
  have hz2 := hb2.size
  have HD2 := Lib.hid hf2
  have HE2 := Lib.hid he2
  have HZ2 : Hid (CluSz D2 1048576) := HZ.out.same he2
  have HV2 : Hid (cluOK D2 = V) := (cluOK_same he2).trans HV.out
  clear hf2 he2
  have q2_0_0 : w2.cell? ⟨w.heap.size, 0, none⟩ = some (.slice C.an C.nodes.length C.cn) := by
    rw [hb2.cell (p := ⟨w.heap.size, 0, none⟩) (show w.heap.size < _ by (try simp) <;> (try omega))]
    exact q1_0_0
  have q2_0_1 : w2.cell? ⟨w.heap.size, 1, none⟩ = some (.slice C.ast C.stores.length C.cst) := by
    rw [hb2.cell (p := ⟨w.heap.size, 1, none⟩) (show w.heap.size < _ by (try simp) <;> (try omega))]
    exact q1_0_1
  have q2_0_2 : w2.cell? ⟨w.heap.size, 2, none⟩ = some (.slice C.aw C.wire.length C.cw) := by
    rw [hb2.cell (p := ⟨w.heap.size, 2, none⟩) (show w.heap.size < _ by (try simp) <;> (try omega))]
    exact q1_0_2
  have q2_0_3 : w2.cell? ⟨w.heap.size, 3, none⟩ = some (.slice C.ad C.done.length C.cd) := by
    rw [hb2.cell (p := ⟨w.heap.size, 3, none⟩) (show w.heap.size < _ by (try simp) <;> (try omega))]
    exact q1_0_3
  have hl2_0 : w.heap.size < w2.heap.size := by omega
  clear q1_0_0 q1_0_1 q1_0_2 q1_0_3
  have HB2 : Hid (Below w.heap.size w w2) := HB1.out.trans (hb2.mono (by (try simp) <;> (try omega)))
  clear hb2
  go_wp2_with fail
  refine (specCluster_c D2.nodes D2.an D2.cn D2.stores D2.ast D2.cst D2.wire D2.aw D2.cw D2.done D2.ad D2.cd _ HD2.out HZ2.out).mono ?_
  rw [HV2.out]
  rintro e w3 ⟨rfl, hb3⟩
  have hz3 := hb3.size
  have HD23 := Lib.hid (HD2.out.below hb3)
  clear HD2
  have q3_0_0 : w3.cell? ⟨w.heap.size, 0, none⟩ = some (.slice C.an C.nodes.length C.cn) := by
    rw [hb3.cell (p := ⟨w.heap.size, 0, none⟩) (show w.heap.size < _ by (try simp) <;> (try omega))]
    exact q2_0_0
  have q3_0_1 : w3.cell? ⟨w.heap.size, 1, none⟩ = some (.slice C.ast C.stores.length C.cst) := by
    rw [hb3.cell (p := ⟨w.heap.size, 1, none⟩) (show w.heap.size < _ by (try simp) <;> (try omega))]
    exact q2_0_1
  have q3_0_2 : w3.cell? ⟨w.heap.size, 2, none⟩ = some (.slice C.aw C.wire.length C.cw) := by
    rw [hb3.cell (p := ⟨w.heap.size, 2, none⟩) (show w.heap.size < _ by (try simp) <;> (try omega))]
    exact q2_0_2
  have q3_0_3 : w3.cell? ⟨w.heap.size, 3, none⟩ = some (.slice C.ad C.done.length C.cd) := by
    rw [hb3.cell (p := ⟨w.heap.size, 3, none⟩) (show w.heap.size < _ by (try simp) <;> (try omega))]
    exact q2_0_3
  have hl3_0 : w.heap.size < w3.heap.size := by omega
  clear q2_0_0 q2_0_1 q2_0_2 q2_0_3
  have HB3 : Hid (Below w.heap.size w w3) := HB2.out.trans (hb3.mono (by (try simp) <;> (try omega)))
  clear hb3
  clear HD23
  go_wp2_with fail
  refine (toCluster2_c C _ (hC.keep HB3.out) HZ.out).mono ?_
  rintro e w4 ⟨D4, rfl, he4, hf4, hcap4, hb4⟩
  have hz4 := hb4.size
  have HD4 := Lib.hid hf4
  have HE4 := Lib.hid he4
  have HZ4 : Hid (CluSz D4 1048576) := HZ.out.same he4
  have HV4 : Hid (cluOK D4 = V) := (cluOK_same he4).trans HV.out
  clear hf4 he4
  have q4_0_0 : w4.cell? ⟨w.heap.size, 0, none⟩ = some (.slice C.an C.nodes.length C.cn) := by
    rw [hb4.cell (p := ⟨w.heap.size, 0, none⟩) (show w.heap.size < _ by (try simp) <;> (try omega))]
    exact q3_0_0
  have q4_0_1 : w4.cell? ⟨w.heap.size, 1, none⟩ = some (.slice C.ast C.stores.length C.cst) := by
    rw [hb4.cell (p := ⟨w.heap.size, 1, none⟩) (show w.heap.size < _ by (try simp) <;> (try omega))]
    exact q3_0_1
  have q4_0_2 : w4.cell? ⟨w.heap.size, 2, none⟩ = some (.slice C.aw C.wire.length C.cw) := by
    rw [hb4.cell (p := ⟨w.heap.size, 2, none⟩) (show w.heap.size < _ by (try simp) <;> (try omega))]
    exact q3_0_2
  have q4_0_3 : w4.cell? ⟨w.heap.size, 3, none⟩ = some (.slice C.ad C.done.length C.cd) := by
    rw [hb4.cell (p := ⟨w.heap.size, 3, none⟩) (show w.heap.size < _ by (try simp) <;> (try omega))]
    exact q3_0_3
  have hl4_0 : w.heap.size < w4.heap.size := by omega
  clear q3_0_0 q3_0_1 q3_0_2 q3_0_3
  have HB4 : Hid (Below w.heap.size w w4) := HB3.out.trans (hb4.mono (by (try simp) <;> (try omega)))
  clear hb4
  go_wp2_with fail
  refine (implClusterOK_c D4.nodes D4.an D4.cn D4.stores D4.ast D4.cst D4.wire D4.aw D4.cw D4.done D4.ad D4.cd _ (HD4.out.alloc _) HZ4.out).mono ?_
  rw [HV4.out]
  rintro e w5 ⟨rfl, hb5⟩
  have hz5 := hb5.size
  simp only [World.size_alloc] at hz5
  have HD45 := Lib.hid ((HD4.out.alloc _).below hb5)
  clear HD4
  have q5_0_0 : w5.cell? ⟨w.heap.size, 0, none⟩ = some (.slice C.an C.nodes.length C.cn) := by
    rw [hb5.cell (p := ⟨w.heap.size, 0, none⟩) (show w.heap.size < _ by (try simp) <;> (try omega))]
    first | assumption | (simp [go_sem, *])
  have q5_0_1 : w5.cell? ⟨w.heap.size, 1, none⟩ = some (.slice C.ast C.stores.length C.cst) := by
    rw [hb5.cell (p := ⟨w.heap.size, 1, none⟩) (show w.heap.size < _ by (try simp) <;> (try omega))]
    first | assumption | (simp [go_sem, *])
  have q5_0_2 : w5.cell? ⟨w.heap.size, 2, none⟩ = some (.slice C.aw C.wire.length C.cw) := by
    rw [hb5.cell (p := ⟨w.heap.size, 2, none⟩) (show w.heap.size < _ by (try simp) <;> (try omega))]
    first | assumption | (simp [go_sem, *])
  have q5_0_3 : w5.cell? ⟨w.heap.size, 3, none⟩ = some (.slice C.ad C.done.length C.cd) := by
    rw [hb5.cell (p := ⟨w.heap.size, 3, none⟩) (show w.heap.size < _ by (try simp) <;> (try omega))]
    first | assumption | (simp [go_sem, *])
  have hl5_0 : w.heap.size < w5.heap.size := by omega
  clear q4_0_0 q4_0_1 q4_0_2 q4_0_3
  have q5_1_0 : w5.cell? ⟨w4.heap.size, 0, none⟩ = some (.slice D4.an D4.nodes.length D4.cn) := by
    rw [hb5.cell (p := ⟨w4.heap.size, 0, none⟩) (show w4.heap.size < _ by (try simp) <;> (try omega))]
    first | assumption | (simp [go_sem, *])
  have q5_1_1 : w5.cell? ⟨w4.heap.size, 1, none⟩ = some (.slice D4.ast D4.stores.length D4.cst) := by
    rw [hb5.cell (p := ⟨w4.heap.size, 1, none⟩) (show w4.heap.size < _ by (try simp) <;> (try omega))]
    first | assumption | (simp [go_sem, *])
  have q5_1_2 : w5.cell? ⟨w4.heap.size, 2, none⟩ = some (.slice D4.aw D4.wire.length D4.cw) := by
    rw [hb5.cell (p := ⟨w4.heap.size, 2, none⟩) (show w4.heap.size < _ by (try simp) <;> (try omega))]
    first | assumption | (simp [go_sem, *])
  have q5_1_3 : w5.cell? ⟨w4.heap.size, 3, none⟩ = some (.slice D4.ad D4.done.length D4.cd) := by
    rw [hb5.cell (p := ⟨w4.heap.size, 3, none⟩) (show w4.heap.size < _ by (try simp) <;> (try omega))]
    first | assumption | (simp [go_sem, *])
  have hl5_1 : w4.heap.size < w5.heap.size := by omega
  have HB5 : Hid (Below w.heap.size w w5) := (HB4.out.alloc (by (try simp) <;> (try omega)) _).trans (hb5.mono (by (try simp) <;> (try omega)))
  clear hb5
  go_wp2_with fail
  go_region_held3 (fun w' => w'.cell? ⟨w.heap.size, 0, none⟩ = some (.slice C.an C.nodes.length C.cn) ∧ w'.cell? ⟨w.heap.size, 1, none⟩ = some (.slice C.ast C.stores.length C.cst) ∧ w'.cell? ⟨w.heap.size, 2, none⟩ = some (.slice C.aw C.wire.length C.cw) ∧ w'.cell? ⟨w.heap.size, 3, none⟩ = some (.slice C.ad C.done.length C.cd) ∧ w'.cell? ⟨w4.heap.size, 0, none⟩ = some (.slice D4.an D4.nodes.length D4.cn) ∧ w'.cell? ⟨w4.heap.size, 1, none⟩ = some (.slice D4.ast D4.stores.length D4.cst) ∧ w'.cell? ⟨w4.heap.size, 2, none⟩ = some (.slice D4.aw D4.wire.length D4.cw) ∧ w'.cell? ⟨w4.heap.size, 3, none⟩ = some (.slice D4.ad D4.done.length D4.cd))
    (first | go_keep | (repeat' apply And.intro) <;> assumption)
    (first
    | (have tok7 := hb6
       clear tok7
       go_at_call 12
       refine (eqCluster_same D4 D6 _ (HD45.out.drew.below hb6) hf6 (he6.trans HE4.out.symm) HZ4.out).mono ?_
       rintro e w7 ⟨rfl, hb7⟩
       have hz7 := hb7.size
       try simp at hz7
       have q7_0_0 : w7.cell? ⟨w.heap.size, 0, none⟩ = some (.slice C.an C.nodes.length C.cn) := by
         rw [hb7.cell (p := ⟨w.heap.size, 0, none⟩) (show w.heap.size < _ by (try simp) <;> (try omega))]
         first | assumption | (simp [go_sem, *])
       have q7_0_1 : w7.cell? ⟨w.heap.size, 1, none⟩ = some (.slice C.ast C.stores.length C.cst) := by
         rw [hb7.cell (p := ⟨w.heap.size, 1, none⟩) (show w.heap.size < _ by (try simp) <;> (try omega))]
         first | assumption | (simp [go_sem, *])
       have q7_0_2 : w7.cell? ⟨w.heap.size, 2, none⟩ = some (.slice C.aw C.wire.length C.cw) := by
         rw [hb7.cell (p := ⟨w.heap.size, 2, none⟩) (show w.heap.size < _ by (try simp) <;> (try omega))]
         first | assumption | (simp [go_sem, *])
       have q7_0_3 : w7.cell? ⟨w.heap.size, 3, none⟩ = some (.slice C.ad C.done.length C.cd) := by
         rw [hb7.cell (p := ⟨w.heap.size, 3, none⟩) (show w.heap.size < _ by (try simp) <;> (try omega))]
         first | assumption | (simp [go_sem, *])
       have hl7_0 : w.heap.size < w7.heap.size := by omega
       have q7_1_0 : w7.cell? ⟨w4.heap.size, 0, none⟩ = some (.slice D4.an D4.nodes.length D4.cn) := by
         rw [hb7.cell (p := ⟨w4.heap.size, 0, none⟩) (show w4.heap.size < _ by (try simp) <;> (try omega))]
         first | assumption | (simp [go_sem, *])
       have q7_1_1 : w7.cell? ⟨w4.heap.size, 1, none⟩ = some (.slice D4.ast D4.stores.length D4.cst) := by
         rw [hb7.cell (p := ⟨w4.heap.size, 1, none⟩) (show w4.heap.size < _ by (try simp) <;> (try omega))]
         first | assumption | (simp [go_sem, *])
       have q7_1_2 : w7.cell? ⟨w4.heap.size, 2, none⟩ = some (.slice D4.aw D4.wire.length D4.cw) := by
         rw [hb7.cell (p := ⟨w4.heap.size, 2, none⟩) (show w4.heap.size < _ by (try simp) <;> (try omega))]
         first | assumption | (simp [go_sem, *])
       have q7_1_3 : w7.cell? ⟨w4.heap.size, 3, none⟩ = some (.slice D4.ad D4.done.length D4.cd) := by
         rw [hb7.cell (p := ⟨w4.heap.size, 3, none⟩) (show w4.heap.size < _ by (try simp) <;> (try omega))]
         first | assumption | (simp [go_sem, *])
       have hl7_1 : w4.heap.size < w7.heap.size := by omega)
    | (go_at_call 10
       refine (toCluster2_c C _ (hC.keep (HB5.out.drew)) HZ.out).mono ?_
       rintro e w6 ⟨D6, rfl, he6, hf6, _, hb6⟩
       have hz6 := hb6.size
       try simp at hz6
       have q6_0_0 : w6.cell? ⟨w.heap.size, 0, none⟩ = some (.slice C.an C.nodes.length C.cn) := by
         rw [hb6.cell (p := ⟨w.heap.size, 0, none⟩) (show w.heap.size < _ by (try simp) <;> (try omega))]
         first | assumption | (simp [go_sem, *])
       have q6_0_1 : w6.cell? ⟨w.heap.size, 1, none⟩ = some (.slice C.ast C.stores.length C.cst) := by
         rw [hb6.cell (p := ⟨w.heap.size, 1, none⟩) (show w.heap.size < _ by (try simp) <;> (try omega))]
         first | assumption | (simp [go_sem, *])
       have q6_0_2 : w6.cell? ⟨w.heap.size, 2, none⟩ = some (.slice C.aw C.wire.length C.cw) := by
         rw [hb6.cell (p := ⟨w.heap.size, 2, none⟩) (show w.heap.size < _ by (try simp) <;> (try omega))]
         first | assumption | (simp [go_sem, *])
       have q6_0_3 : w6.cell? ⟨w.heap.size, 3, none⟩ = some (.slice C.ad C.done.length C.cd) := by
         rw [hb6.cell (p := ⟨w.heap.size, 3, none⟩) (show w.heap.size < _ by (try simp) <;> (try omega))]
         first | assumption | (simp [go_sem, *])
       have hl6_0 : w.heap.size < w6.heap.size := by omega
       have q6_1_0 : w6.cell? ⟨w4.heap.size, 0, none⟩ = some (.slice D4.an D4.nodes.length D4.cn) := by
         rw [hb6.cell (p := ⟨w4.heap.size, 0, none⟩) (show w4.heap.size < _ by (try simp) <;> (try omega))]
         first | assumption | (simp [go_sem, *])
       have q6_1_1 : w6.cell? ⟨w4.heap.size, 1, none⟩ = some (.slice D4.ast D4.stores.length D4.cst) := by
         rw [hb6.cell (p := ⟨w4.heap.size, 1, none⟩) (show w4.heap.size < _ by (try simp) <;> (try omega))]
         first | assumption | (simp [go_sem, *])
       have q6_1_2 : w6.cell? ⟨w4.heap.size, 2, none⟩ = some (.slice D4.aw D4.wire.length D4.cw) := by
         rw [hb6.cell (p := ⟨w4.heap.size, 2, none⟩) (show w4.heap.size < _ by (try simp) <;> (try omega))]
         first | assumption | (simp [go_sem, *])
       have q6_1_3 : w6.cell? ⟨w4.heap.size, 3, none⟩ = some (.slice D4.ad D4.done.length D4.cd) := by
         rw [hb6.cell (p := ⟨w4.heap.size, 3, none⟩) (show w4.heap.size < _ by (try simp) <;> (try omega))]
         first | assumption | (simp [go_sem, *])
       have hl6_1 : w4.heap.size < w6.heap.size := by omega))
  have hr7 : Below w5.heap.size w5 w7 := ((((Below.refl _ _).drew).trans (hb6.mono (by (try simp) <;> (try omega)))).trans (hb7.mono (by (try simp) <;> (try omega))))
  have hzr7 := hr7.size
  have HD47 := Lib.hid (HD45.out.below hr7)
  clear HD45
  have HB7 : Hid (Below w.heap.size w w7) := HB5.out.trans (hr7.mono (by omega))
  clear q5_0_0 q5_0_1 q5_0_2 q5_0_3 q6_0_0 q6_0_1 q6_0_2 q6_0_3 q5_1_0 q5_1_1 q5_1_2 q5_1_3 q6_1_0 q6_1_1 q6_1_2 q6_1_3 hb6 hb7 hr7
  go_wp2_with fail
  go_ret
  exact ⟨rfl, HB7.out⟩
end
section
open Go.ChangeShapes Go.WideShapes Go.ChangeAt Go.RowKit
set_option maxRecDepth 100000 in
theorem fnExactClusterOK_lifted (os : Os) (started : os.Started) (H : Type) (enc : TypeId × Value → H) :
    ReturnsInHanded {} Try.checked os 3 .any (Rows.fnExactClusterOKSpec.pre6 enc Try.prog Try.f3 Rows.fnExactClusterOKRow.domain false) (Rows.fnExactClusterOKSpec.post enc Try.prog Try.f3 false true false false) := by
  refine returnsInHanded_of_change (C := Try.checked) Try.own started (by kernel_rfl) Try.func3
    (ChangeSpec.witness6 (enc := enc) (C := Try.checked) false ⟨#[], #[.agg #[.slice none 0 0, .slice none 0 0, .slice none 0 0, .slice none 0 0]], []⟩ 8 (by kernel_rfl) (by kernel_rfl) (by kernel_rfl) (by kernel_rfl)) ?_
  intro W base args ds gs before hval hW hcnd _
  have hW' := hW
  obtain ⟨p, q, hA, hV, rfl, hfz, hnd⟩ := hW
  obtain ⟨v0, d0, rfl, rfl, h0⟩ := trodAll_one hA
  obtain ⟨rfl, rfl⟩ := trodVars_none hV
  obtain ⟨C, rfl, l1, l2⟩ := openCluster (hval 0 27 v0 rfl rfl) h0
  exact law_calls rfl rfl (by kernel_rfl) hW' rfl (lawCluOK_c C W l1 l2)
theorem fnExactClusterOK_holds : Rows.FnExactClusterOKSaid :=
  OpenClaim.holds_of_wide 3 Try.f3 rfl rfl rfl rfl rfl rfl rfl ⟨rfl, rfl, rfl, rfl, rfl⟩ rfl rfl rfl rfl rfl (by kernel_rfl) Try.func3 (by kernel_rfl)
    (of_decide_eq_true (by kernel_rfl)) (by unfold Func.isWrapper; first | (rw [if_pos (by decide +kernel)]; kernel_rfl) | (rw [if_neg (by decide +kernel)]; exact ⟨rfl, rfl⟩))
    (fun os started H enc _ => fnExactClusterOK_lifted os started H enc)
end
end Go.Proofs.Ytckaccadgbcohaa
