/- impl.NewCluster returns what spec.NewCluster returns: the law FnExactNewCluster returns true for every number. No conditions. -/
import Derived.Test.YtckaccadgbcohaaCluZ
import Derived.Test.YtckaccadgbcohaaNcAll
import Derived.Deep.RegionHeld3
import Derived.Test.YtckaccadgbcohaaFrame
namespace Go.Proofs.Ytckaccadgbcohaa
set_option linter.unusedVariables false
set_option linter.unusedSimpArgs false
section
open Go.RowKit
theorem nodeNum_up (c : Nat) (rs : List NodeA) (h : ∀ r ∈ rs, nodeCnt r ≤ c) (K : Nat) : nodeNum K rs ≤ K + rs.length * c := by
  induction rs generalizing K with
  | nil => simp [nodeNum]
  | cons r rs ih =>
    have h1 := h r (List.mem_cons_self ..)
    have h2 := ih (fun x hx => h x (List.mem_cons_of_mem _ hx)) (K + nodeCnt r)
    simp only [nodeNum, List.length_cons, Nat.add_mul]
    omega
theorem storeNum_up (c : Nat) (rs : List Sto) (h : ∀ r ∈ rs, storeCnt r ≤ c) (K : Nat) : storeNum K rs ≤ K + rs.length * c := by
  induction rs generalizing K with
  | nil => simp [storeNum]
  | cons r rs ih =>
    have h1 := h r (List.mem_cons_self ..)
    have h2 := ih (fun x hx => h x (List.mem_cons_of_mem _ hx)) (K + storeCnt r)
    simp only [storeNum, List.length_cons, Nat.add_mul]
    omega
theorem messageNum_up (c : Nat) (rs : List MsgA) (h : ∀ r ∈ rs, messageCnt r ≤ c) (K : Nat) : messageNum K rs ≤ K + rs.length * c := by
  induction rs generalizing K with
  | nil => simp [messageNum]
  | cons r rs ih =>
    have h1 := h r (List.mem_cons_self ..)
    have h2 := ih (fun x hx => h x (List.mem_cons_of_mem _ hx)) (K + messageCnt r)
    simp only [messageNum, List.length_cons, Nat.add_mul]
    omega
theorem cluNum_le (D : CluA) (h : CluSz D 1048576) : cluNum D 1 ≤ 17592186044416 := by
  have h1 := nodeNum_up 5242889 D.nodes (fun r hr => by
    have z := h.nodes r hr
    have z1 := z.log; have z2 := z.votes; have z3 := z.next; have z4 := z.mtch
    unfold nodeCnt; omega) 1
  have h2 := storeNum_up 2 D.stores (fun r _ => by unfold storeCnt; omega) (cluK1 D 1)
  have h3 := messageNum_up 2097160 D.wire (fun r hr => by
    have z := (h.wire r hr).ents
    unfold messageCnt; omega) (cluK2 D 1)
  have l1 := Nat.mul_le_mul_right 5242889 h.nl
  have l2 := h.sl
  have l3 := Nat.mul_le_mul_right 2097160 h.wl
  have l4 := h.dl
  have e1 : nodeNum 1 D.nodes = cluK1 D 1 := rfl
  have e2 : storeNum (cluK1 D 1) D.stores = cluK2 D 1 := rfl
  have e3 : messageNum (cluK2 D 1) D.wire = cluK3 D 1 := rfl
  rw [e1] at h1
  rw [e2] at h2
  rw [e3] at h3
  unfold cluNum
  omega
end
section
open Go.RowKit
/-- A cluster that lies below block b, read there. -/
def CluD (b : Nat) (w : World) (C : CluA) : Prop := ∃ w0 : World, w0.heap.size = b ∧ CluOK w0 C ∧ Below b w0 w
theorem CluD.start {w : World} {C : CluA} (h : CluOK w C) : CluD w.heap.size w C := ⟨w, rfl, h, Below.refl _ _⟩
theorem CluD.below {b : Nat} {w w' : World} {C : CluA} (h : CluD b w C) (hb : Below w.heap.size w w') : CluD b w' C := by
  obtain ⟨w0, rfl, h1, h2⟩ := h
  exact ⟨w0, rfl, h1, h2.trans (hb.mono h2.size)⟩
theorem CluD.mid {b l r : Nat} {w w' : World} {C : CluA} (h : CluD b w C) (hm : Mid l r w w') (hd : b ≤ l) : CluD b w' C := by
  obtain ⟨w0, rfl, h1, h2⟩ := h
  exact ⟨w0, rfl, h1, h2.trans (hm.below hd h2.size)⟩
theorem CluD.alloc {b : Nat} {w : World} {C : CluA} (h : CluD b w C) (o : Obj) : CluD b (w.alloc o) C := h.below ((Below.refl _ _).alloc (Nat.le_refl _) _)
theorem CluD.drew {b : Nat} {w : World} {C : CluA} (h : CluD b w C) : CluD b w.drew C := h.below ((Below.refl _ _).drew)
theorem CluD.ok {b : Nat} {w : World} {C : CluA} (h : CluD b w C) : CluOK w C := by
  obtain ⟨w0, rfl, h1, h2⟩ := h
  exact h1.keep h2
set_option maxRecDepth 100000 in
set_option maxHeartbeats 16000000 in
theorem lawNewCl_c (n : Int) (w : World) :
    Calls Try.prog 7 #[.int .i64 n] w fun e w' => e = .returned (.bool true) ∧ Below w.heap.size w w' := by
  obtain ⟨cd, hcd⟩ : ∃ c, nwC n = c := ⟨_, rfl⟩
  have HCD := Lib.hid hcd
  clear hcd
  go_enter Try.func7, Try.ntmps7
  go_wp2_with fail
  refine (specNC_c n _).mono ?_
  unfold NcSR
  rw [HCD.out]
  rintro e w1 ⟨C, rfl, hv1, ho1, hb1⟩
  have hz1 := hb1.size
  have HV1 := Lib.hid hv1
  have HS1 := Lib.hid (CluD.start ho1)
  clear hv1 ho1
  have HB1 := Lib.hid hb1
  clear hb1
  go_wp2_with fail
  refine (implNC_c n _).mono ?_
  unfold NcIR
  rw [HCD.out]
  rintro e w2 ⟨ns2, an2, cn2, ss2, ast2, cst2, rfl, hv2, hn2, hc2, hb2⟩
  have hz2 := hb2.size
  simp only [World.size_alloc] at hz2
  have HV2 := Lib.hid hv2
  have HC2 := Lib.hid hc2
  have HI2 := Lib.hid (show CluN (w1.heap.size + 1) w2.heap.size w2 an2 ns2 ast2 ss2 from (by simpa using hn2))
  clear hv2 hn2 hc2
  have HS2 := Lib.hid ((HS1.out.alloc _).below hb2)
  clear HS1
  have q2_0_0 : w2.cell? ⟨w1.heap.size, 0, none⟩ = some (.slice C.an C.nodes.length C.cn) := by
    rw [hb2.cell (p := ⟨w1.heap.size, 0, none⟩) (show w1.heap.size < _ by (try simp) <;> (try omega))]
    first | assumption | (simp [go_sem, *])
  have q2_0_1 : w2.cell? ⟨w1.heap.size, 1, none⟩ = some (.slice C.ast C.stores.length C.cst) := by
    rw [hb2.cell (p := ⟨w1.heap.size, 1, none⟩) (show w1.heap.size < _ by (try simp) <;> (try omega))]
    first | assumption | (simp [go_sem, *])
  have q2_0_2 : w2.cell? ⟨w1.heap.size, 2, none⟩ = some (.slice C.aw C.wire.length C.cw) := by
    rw [hb2.cell (p := ⟨w1.heap.size, 2, none⟩) (show w1.heap.size < _ by (try simp) <;> (try omega))]
    first | assumption | (simp [go_sem, *])
  have q2_0_3 : w2.cell? ⟨w1.heap.size, 3, none⟩ = some (.slice C.ad C.done.length C.cd) := by
    rw [hb2.cell (p := ⟨w1.heap.size, 3, none⟩) (show w1.heap.size < _ by (try simp) <;> (try omega))]
    first | assumption | (simp [go_sem, *])
  have hl2_0 : w1.heap.size < w2.heap.size := by omega
  have HB2 : Hid (Below w.heap.size w w2) := (HB1.out.alloc (by (try simp) <;> (try omega)) _).trans (hb2.mono (by (try simp) <;> (try omega)))
  clear hb2
  go_wp2_with fail
  refine (eqCluster_same (cluI ns2 an2 cn2 ss2 ast2 cst2) C _ ((HI2.out.alloc _).ok HC2.out) (HS2.out.alloc _).ok (HV1.out.same HV2.out) HV2.out.sz).mono ?_
  rintro e w3 ⟨rfl, hb3⟩
  have hz3 := hb3.size
  simp only [World.size_alloc] at hz3
  have HS3 := Lib.hid ((HS2.out.alloc _).below hb3)
  clear HS2
  have HI23 := Lib.hid ((HI2.out.alloc _).below hb3)
  clear HI2
  have q3_0_0 : w3.cell? ⟨w1.heap.size, 0, none⟩ = some (.slice C.an C.nodes.length C.cn) := by
    rw [hb3.cell (p := ⟨w1.heap.size, 0, none⟩) (show w1.heap.size < _ by (try simp) <;> (try omega))]
    first | assumption | (simp [go_sem, *])
  have q3_0_1 : w3.cell? ⟨w1.heap.size, 1, none⟩ = some (.slice C.ast C.stores.length C.cst) := by
    rw [hb3.cell (p := ⟨w1.heap.size, 1, none⟩) (show w1.heap.size < _ by (try simp) <;> (try omega))]
    first | assumption | (simp [go_sem, *])
  have q3_0_2 : w3.cell? ⟨w1.heap.size, 2, none⟩ = some (.slice C.aw C.wire.length C.cw) := by
    rw [hb3.cell (p := ⟨w1.heap.size, 2, none⟩) (show w1.heap.size < _ by (try simp) <;> (try omega))]
    first | assumption | (simp [go_sem, *])
  have q3_0_3 : w3.cell? ⟨w1.heap.size, 3, none⟩ = some (.slice C.ad C.done.length C.cd) := by
    rw [hb3.cell (p := ⟨w1.heap.size, 3, none⟩) (show w1.heap.size < _ by (try simp) <;> (try omega))]
    first | assumption | (simp [go_sem, *])
  have hl3_0 : w1.heap.size < w3.heap.size := by omega
  clear q2_0_0 q2_0_1 q2_0_2 q2_0_3
  have q3_1_0 : w3.cell? ⟨w2.heap.size, 0, none⟩ = some (.slice an2 ns2.length cn2) := by
    rw [hb3.cell (p := ⟨w2.heap.size, 0, none⟩) (show w2.heap.size < _ by (try simp) <;> (try omega))]
    first | assumption | (simp [go_sem, *])
  have q3_1_1 : w3.cell? ⟨w2.heap.size, 1, none⟩ = some (.slice ast2 ss2.length cst2) := by
    rw [hb3.cell (p := ⟨w2.heap.size, 1, none⟩) (show w2.heap.size < _ by (try simp) <;> (try omega))]
    first | assumption | (simp [go_sem, *])
  have q3_1_2 : w3.cell? ⟨w2.heap.size, 2, none⟩ = some (.slice none 0 0) := by
    rw [hb3.cell (p := ⟨w2.heap.size, 2, none⟩) (show w2.heap.size < _ by (try simp) <;> (try omega))]
    first | assumption | (simp [go_sem, *])
  have q3_1_3 : w3.cell? ⟨w2.heap.size, 3, none⟩ = some (.slice none 0 0) := by
    rw [hb3.cell (p := ⟨w2.heap.size, 3, none⟩) (show w2.heap.size < _ by (try simp) <;> (try omega))]
    first | assumption | (simp [go_sem, *])
  have hl3_1 : w2.heap.size < w3.heap.size := by omega
  have HB3 : Hid (Below w.heap.size w w3) := (HB2.out.alloc (by (try simp) <;> (try omega)) _).trans (hb3.mono (by (try simp) <;> (try omega)))
  clear hb3
  obtain ⟨KN, hKN⟩ : ∃ j, storeNum (nodeNum 1 ns2) ss2 = j := ⟨_, rfl⟩
  have HKN := Lib.hid hKN
  have hKle : storeNum (nodeNum 1 ns2) ss2 ≤ 17592186044416 := cluNum_le (cluI ns2 an2 cn2 ss2 ast2 cst2) HV2.out.sz
  have HKL := Lib.hid hKle
  clear hKN hKle
  go_wp2_with fail
  refine (markCluN_c an2 ast2 ns2 ss2 cn2 cst2 1 (w1.heap.size + 1) (w2.heap.size) _ HI23.out (by omega) HKL.out).mono ?_
  rw [HKN.out]
  rintro e w4 ⟨rfl, hk4, hb4⟩
  have hz4 := hb4.size
  have HK4 := Lib.hid hk4
  clear hk4
  have hKNn : decide ((KN : Int) < 0) = false := decide_eq_false (by omega)
  have HS4 := Lib.hid (HS3.out.mid hb4 (by omega))
  clear HS3
  have q4_0_0 : w4.cell? ⟨w1.heap.size, 0, none⟩ = some (.slice C.an C.nodes.length C.cn) := by
    rw [hb4.cell (p := ⟨w1.heap.size, 0, none⟩) (show w1.heap.size < _ by (try simp) <;> (try omega)) (by show w1.heap.size < _ ∨ _ ≤ w1.heap.size; omega)]
    exact q3_0_0
  have q4_0_1 : w4.cell? ⟨w1.heap.size, 1, none⟩ = some (.slice C.ast C.stores.length C.cst) := by
    rw [hb4.cell (p := ⟨w1.heap.size, 1, none⟩) (show w1.heap.size < _ by (try simp) <;> (try omega)) (by show w1.heap.size < _ ∨ _ ≤ w1.heap.size; omega)]
    exact q3_0_1
  have q4_0_2 : w4.cell? ⟨w1.heap.size, 2, none⟩ = some (.slice C.aw C.wire.length C.cw) := by
    rw [hb4.cell (p := ⟨w1.heap.size, 2, none⟩) (show w1.heap.size < _ by (try simp) <;> (try omega)) (by show w1.heap.size < _ ∨ _ ≤ w1.heap.size; omega)]
    exact q3_0_2
  have q4_0_3 : w4.cell? ⟨w1.heap.size, 3, none⟩ = some (.slice C.ad C.done.length C.cd) := by
    rw [hb4.cell (p := ⟨w1.heap.size, 3, none⟩) (show w1.heap.size < _ by (try simp) <;> (try omega)) (by show w1.heap.size < _ ∨ _ ≤ w1.heap.size; omega)]
    exact q3_0_3
  have hl4_0 : w1.heap.size < w4.heap.size := by omega
  clear q3_0_0 q3_0_1 q3_0_2 q3_0_3
  have q4_1_0 : w4.cell? ⟨w2.heap.size, 0, none⟩ = some (.slice an2 ns2.length cn2) := by
    rw [hb4.cell (p := ⟨w2.heap.size, 0, none⟩) (show w2.heap.size < _ by (try simp) <;> (try omega)) (by show w2.heap.size < _ ∨ _ ≤ w2.heap.size; omega)]
    exact q3_1_0
  have q4_1_1 : w4.cell? ⟨w2.heap.size, 1, none⟩ = some (.slice ast2 ss2.length cst2) := by
    rw [hb4.cell (p := ⟨w2.heap.size, 1, none⟩) (show w2.heap.size < _ by (try simp) <;> (try omega)) (by show w2.heap.size < _ ∨ _ ≤ w2.heap.size; omega)]
    exact q3_1_1
  have q4_1_2 : w4.cell? ⟨w2.heap.size, 2, none⟩ = some (.slice none 0 0) := by
    rw [hb4.cell (p := ⟨w2.heap.size, 2, none⟩) (show w2.heap.size < _ by (try simp) <;> (try omega)) (by show w2.heap.size < _ ∨ _ ≤ w2.heap.size; omega)]
    exact q3_1_2
  have q4_1_3 : w4.cell? ⟨w2.heap.size, 3, none⟩ = some (.slice none 0 0) := by
    rw [hb4.cell (p := ⟨w2.heap.size, 3, none⟩) (show w2.heap.size < _ by (try simp) <;> (try omega)) (by show w2.heap.size < _ ∨ _ ≤ w2.heap.size; omega)]
    exact q3_1_3
  have hl4_1 : w2.heap.size < w4.heap.size := by omega
  clear q3_1_0 q3_1_1 q3_1_2 q3_1_3
  have HB4 : Hid (Below w.heap.size w w4) := HB3.out.trans (hb4.below (by omega) (by (try simp) <;> (try omega)))
  clear hb4
  clear HI23
  go_wp2_with fail
  refine (heldCluK_c an2 ast2 ns2 ss2 cn2 cst2 1 (w1.heap.size + 1) (w2.heap.size) _ HK4.out HKL.out).mono ?_
  rw [HKN.out]
  rintro e w5 ⟨rfl, hb5⟩
  have hz5 := hb5.size
  have HS5 := Lib.hid (HS4.out.below hb5)
  clear HS4
  have HK5 := Lib.hid (HK4.out.below hb5)
  clear HK4
  have q5_0_0 : w5.cell? ⟨w1.heap.size, 0, none⟩ = some (.slice C.an C.nodes.length C.cn) := by
    rw [hb5.cell (p := ⟨w1.heap.size, 0, none⟩) (show w1.heap.size < _ by (try simp) <;> (try omega))]
    exact q4_0_0
  have q5_0_1 : w5.cell? ⟨w1.heap.size, 1, none⟩ = some (.slice C.ast C.stores.length C.cst) := by
    rw [hb5.cell (p := ⟨w1.heap.size, 1, none⟩) (show w1.heap.size < _ by (try simp) <;> (try omega))]
    exact q4_0_1
  have q5_0_2 : w5.cell? ⟨w1.heap.size, 2, none⟩ = some (.slice C.aw C.wire.length C.cw) := by
    rw [hb5.cell (p := ⟨w1.heap.size, 2, none⟩) (show w1.heap.size < _ by (try simp) <;> (try omega))]
    exact q4_0_2
  have q5_0_3 : w5.cell? ⟨w1.heap.size, 3, none⟩ = some (.slice C.ad C.done.length C.cd) := by
    rw [hb5.cell (p := ⟨w1.heap.size, 3, none⟩) (show w1.heap.size < _ by (try simp) <;> (try omega))]
    exact q4_0_3
  have hl5_0 : w1.heap.size < w5.heap.size := by omega
  clear q4_0_0 q4_0_1 q4_0_2 q4_0_3
  have q5_1_0 : w5.cell? ⟨w2.heap.size, 0, none⟩ = some (.slice an2 ns2.length cn2) := by
    rw [hb5.cell (p := ⟨w2.heap.size, 0, none⟩) (show w2.heap.size < _ by (try simp) <;> (try omega))]
    exact q4_1_0
  have q5_1_1 : w5.cell? ⟨w2.heap.size, 1, none⟩ = some (.slice ast2 ss2.length cst2) := by
    rw [hb5.cell (p := ⟨w2.heap.size, 1, none⟩) (show w2.heap.size < _ by (try simp) <;> (try omega))]
    exact q4_1_1
  have q5_1_2 : w5.cell? ⟨w2.heap.size, 2, none⟩ = some (.slice none 0 0) := by
    rw [hb5.cell (p := ⟨w2.heap.size, 2, none⟩) (show w2.heap.size < _ by (try simp) <;> (try omega))]
    exact q4_1_2
  have q5_1_3 : w5.cell? ⟨w2.heap.size, 3, none⟩ = some (.slice none 0 0) := by
    rw [hb5.cell (p := ⟨w2.heap.size, 3, none⟩) (show w2.heap.size < _ by (try simp) <;> (try omega))]
    exact q4_1_3
  have hl5_1 : w2.heap.size < w5.heap.size := by omega
  clear q4_1_0 q4_1_1 q4_1_2 q4_1_3
  have HB5 : Hid (Below w.heap.size w w5) := HB4.out.trans (hb5.mono (by (try simp) <;> (try omega)))
  clear hb5
  go_wp2_with fail
  refine (implNC_c n _).mono ?_
  unfold NcIR
  rw [HCD.out]
  rintro e w6 ⟨ns6, an6, cn6, ss6, ast6, cst6, rfl, hv6, hn6, hc6, hb6⟩
  have hz6 := hb6.size
  have HV6 := Lib.hid hv6
  have HC6 := Lib.hid hc6
  have HI6 := Lib.hid (show CluN (w5.heap.size) w6.heap.size w6 an6 ns6 ast6 ss6 from (by simpa using hn6))
  clear hv6 hn6 hc6
  have HS6 := Lib.hid (HS5.out.below hb6)
  clear HS5
  have HK6 := Lib.hid (HK5.out.below hb6)
  clear HK5
  have q6_0_0 : w6.cell? ⟨w1.heap.size, 0, none⟩ = some (.slice C.an C.nodes.length C.cn) := by
    rw [hb6.cell (p := ⟨w1.heap.size, 0, none⟩) (show w1.heap.size < _ by (try simp) <;> (try omega))]
    exact q5_0_0
  have q6_0_1 : w6.cell? ⟨w1.heap.size, 1, none⟩ = some (.slice C.ast C.stores.length C.cst) := by
    rw [hb6.cell (p := ⟨w1.heap.size, 1, none⟩) (show w1.heap.size < _ by (try simp) <;> (try omega))]
    exact q5_0_1
  have q6_0_2 : w6.cell? ⟨w1.heap.size, 2, none⟩ = some (.slice C.aw C.wire.length C.cw) := by
    rw [hb6.cell (p := ⟨w1.heap.size, 2, none⟩) (show w1.heap.size < _ by (try simp) <;> (try omega))]
    exact q5_0_2
  have q6_0_3 : w6.cell? ⟨w1.heap.size, 3, none⟩ = some (.slice C.ad C.done.length C.cd) := by
    rw [hb6.cell (p := ⟨w1.heap.size, 3, none⟩) (show w1.heap.size < _ by (try simp) <;> (try omega))]
    exact q5_0_3
  have hl6_0 : w1.heap.size < w6.heap.size := by omega
  clear q5_0_0 q5_0_1 q5_0_2 q5_0_3
  have q6_1_0 : w6.cell? ⟨w2.heap.size, 0, none⟩ = some (.slice an2 ns2.length cn2) := by
    rw [hb6.cell (p := ⟨w2.heap.size, 0, none⟩) (show w2.heap.size < _ by (try simp) <;> (try omega))]
    exact q5_1_0
  have q6_1_1 : w6.cell? ⟨w2.heap.size, 1, none⟩ = some (.slice ast2 ss2.length cst2) := by
    rw [hb6.cell (p := ⟨w2.heap.size, 1, none⟩) (show w2.heap.size < _ by (try simp) <;> (try omega))]
    exact q5_1_1
  have q6_1_2 : w6.cell? ⟨w2.heap.size, 2, none⟩ = some (.slice none 0 0) := by
    rw [hb6.cell (p := ⟨w2.heap.size, 2, none⟩) (show w2.heap.size < _ by (try simp) <;> (try omega))]
    exact q5_1_2
  have q6_1_3 : w6.cell? ⟨w2.heap.size, 3, none⟩ = some (.slice none 0 0) := by
    rw [hb6.cell (p := ⟨w2.heap.size, 3, none⟩) (show w2.heap.size < _ by (try simp) <;> (try omega))]
    exact q5_1_3
  have hl6_1 : w2.heap.size < w6.heap.size := by omega
  clear q5_1_0 q5_1_1 q5_1_2 q5_1_3
  have HB6 : Hid (Below w.heap.size w w6) := HB5.out.trans (hb6.mono (by (try simp) <;> (try omega)))
  clear hb6
  go_wp2_with fail
  refine (eqCluster_same (cluI ns6 an6 cn6 ss6 ast6 cst6) C _ ((HI6.out.alloc _).ok HC6.out) (HS6.out.alloc _).ok (HV1.out.same HV6.out) HV6.out.sz).mono ?_
  rintro e w7 ⟨rfl, hb7⟩
  have hz7 := hb7.size
  simp only [World.size_alloc] at hz7
  have HS7 := Lib.hid ((HS6.out.alloc _).below hb7)
  clear HS6
  have HK7 := Lib.hid ((HK6.out.alloc _).below hb7)
  clear HK6
  have HI67 := Lib.hid ((HI6.out.alloc _).below hb7)
  clear HI6
  have q7_0_0 : w7.cell? ⟨w1.heap.size, 0, none⟩ = some (.slice C.an C.nodes.length C.cn) := by
    rw [hb7.cell (p := ⟨w1.heap.size, 0, none⟩) (show w1.heap.size < _ by (try simp) <;> (try omega))]
    first | assumption | (simp [go_sem, *])
  have q7_0_1 : w7.cell? ⟨w1.heap.size, 1, none⟩ = some (.slice C.ast C.stores.length C.cst) := by
    rw [hb7.cell (p := ⟨w1.heap.size, 1, none⟩) (show w1.heap.size < _ by (try simp) <;> (try omega))]
    first | assumption | (simp [go_sem, *])
  have q7_0_2 : w7.cell? ⟨w1.heap.size, 2, none⟩ = some (.slice C.aw C.wire.length C.cw) := by
    rw [hb7.cell (p := ⟨w1.heap.size, 2, none⟩) (show w1.heap.size < _ by (try simp) <;> (try omega))]
    first | assumption | (simp [go_sem, *])
  have q7_0_3 : w7.cell? ⟨w1.heap.size, 3, none⟩ = some (.slice C.ad C.done.length C.cd) := by
    rw [hb7.cell (p := ⟨w1.heap.size, 3, none⟩) (show w1.heap.size < _ by (try simp) <;> (try omega))]
    first | assumption | (simp [go_sem, *])
  have hl7_0 : w1.heap.size < w7.heap.size := by omega
  clear q6_0_0 q6_0_1 q6_0_2 q6_0_3
  have q7_1_0 : w7.cell? ⟨w2.heap.size, 0, none⟩ = some (.slice an2 ns2.length cn2) := by
    rw [hb7.cell (p := ⟨w2.heap.size, 0, none⟩) (show w2.heap.size < _ by (try simp) <;> (try omega))]
    first | assumption | (simp [go_sem, *])
  have q7_1_1 : w7.cell? ⟨w2.heap.size, 1, none⟩ = some (.slice ast2 ss2.length cst2) := by
    rw [hb7.cell (p := ⟨w2.heap.size, 1, none⟩) (show w2.heap.size < _ by (try simp) <;> (try omega))]
    first | assumption | (simp [go_sem, *])
  have q7_1_2 : w7.cell? ⟨w2.heap.size, 2, none⟩ = some (.slice none 0 0) := by
    rw [hb7.cell (p := ⟨w2.heap.size, 2, none⟩) (show w2.heap.size < _ by (try simp) <;> (try omega))]
    first | assumption | (simp [go_sem, *])
  have q7_1_3 : w7.cell? ⟨w2.heap.size, 3, none⟩ = some (.slice none 0 0) := by
    rw [hb7.cell (p := ⟨w2.heap.size, 3, none⟩) (show w2.heap.size < _ by (try simp) <;> (try omega))]
    first | assumption | (simp [go_sem, *])
  have hl7_1 : w2.heap.size < w7.heap.size := by omega
  clear q6_1_0 q6_1_1 q6_1_2 q6_1_3
  have q7_2_0 : w7.cell? ⟨w6.heap.size, 0, none⟩ = some (.slice an6 ns6.length cn6) := by
    rw [hb7.cell (p := ⟨w6.heap.size, 0, none⟩) (show w6.heap.size < _ by (try simp) <;> (try omega))]
    first | assumption | (simp [go_sem, *])
  have q7_2_1 : w7.cell? ⟨w6.heap.size, 1, none⟩ = some (.slice ast6 ss6.length cst6) := by
    rw [hb7.cell (p := ⟨w6.heap.size, 1, none⟩) (show w6.heap.size < _ by (try simp) <;> (try omega))]
    first | assumption | (simp [go_sem, *])
  have q7_2_2 : w7.cell? ⟨w6.heap.size, 2, none⟩ = some (.slice none 0 0) := by
    rw [hb7.cell (p := ⟨w6.heap.size, 2, none⟩) (show w6.heap.size < _ by (try simp) <;> (try omega))]
    first | assumption | (simp [go_sem, *])
  have q7_2_3 : w7.cell? ⟨w6.heap.size, 3, none⟩ = some (.slice none 0 0) := by
    rw [hb7.cell (p := ⟨w6.heap.size, 3, none⟩) (show w6.heap.size < _ by (try simp) <;> (try omega))]
    first | assumption | (simp [go_sem, *])
  have hl7_2 : w6.heap.size < w7.heap.size := by omega
  have HB7 : Hid (Below w.heap.size w w7) := (HB6.out.alloc (by (try simp) <;> (try omega)) _).trans (hb7.mono (by (try simp) <;> (try omega)))
  clear hb7
  go_wp2_with fail
  refine (heldCluK_c an2 ast2 ns2 ss2 cn2 cst2 1 (w1.heap.size + 1) (w2.heap.size) _ HK7.out HKL.out).mono ?_
  rw [HKN.out]
  rintro e w8 ⟨rfl, hb8⟩
  have hz8 := hb8.size
  have HS8 := Lib.hid (HS7.out.below hb8)
  clear HS7
  have HK8 := Lib.hid (HK7.out.below hb8)
  clear HK7
  have HI68 := Lib.hid (HI67.out.below hb8)
  clear HI67
  have q8_0_0 : w8.cell? ⟨w1.heap.size, 0, none⟩ = some (.slice C.an C.nodes.length C.cn) := by
    rw [hb8.cell (p := ⟨w1.heap.size, 0, none⟩) (show w1.heap.size < _ by (try simp) <;> (try omega))]
    exact q7_0_0
  have q8_0_1 : w8.cell? ⟨w1.heap.size, 1, none⟩ = some (.slice C.ast C.stores.length C.cst) := by
    rw [hb8.cell (p := ⟨w1.heap.size, 1, none⟩) (show w1.heap.size < _ by (try simp) <;> (try omega))]
    exact q7_0_1
  have q8_0_2 : w8.cell? ⟨w1.heap.size, 2, none⟩ = some (.slice C.aw C.wire.length C.cw) := by
    rw [hb8.cell (p := ⟨w1.heap.size, 2, none⟩) (show w1.heap.size < _ by (try simp) <;> (try omega))]
    exact q7_0_2
  have q8_0_3 : w8.cell? ⟨w1.heap.size, 3, none⟩ = some (.slice C.ad C.done.length C.cd) := by
    rw [hb8.cell (p := ⟨w1.heap.size, 3, none⟩) (show w1.heap.size < _ by (try simp) <;> (try omega))]
    exact q7_0_3
  have hl8_0 : w1.heap.size < w8.heap.size := by omega
  clear q7_0_0 q7_0_1 q7_0_2 q7_0_3
  have q8_1_0 : w8.cell? ⟨w2.heap.size, 0, none⟩ = some (.slice an2 ns2.length cn2) := by
    rw [hb8.cell (p := ⟨w2.heap.size, 0, none⟩) (show w2.heap.size < _ by (try simp) <;> (try omega))]
    exact q7_1_0
  have q8_1_1 : w8.cell? ⟨w2.heap.size, 1, none⟩ = some (.slice ast2 ss2.length cst2) := by
    rw [hb8.cell (p := ⟨w2.heap.size, 1, none⟩) (show w2.heap.size < _ by (try simp) <;> (try omega))]
    exact q7_1_1
  have q8_1_2 : w8.cell? ⟨w2.heap.size, 2, none⟩ = some (.slice none 0 0) := by
    rw [hb8.cell (p := ⟨w2.heap.size, 2, none⟩) (show w2.heap.size < _ by (try simp) <;> (try omega))]
    exact q7_1_2
  have q8_1_3 : w8.cell? ⟨w2.heap.size, 3, none⟩ = some (.slice none 0 0) := by
    rw [hb8.cell (p := ⟨w2.heap.size, 3, none⟩) (show w2.heap.size < _ by (try simp) <;> (try omega))]
    exact q7_1_3
  have hl8_1 : w2.heap.size < w8.heap.size := by omega
  clear q7_1_0 q7_1_1 q7_1_2 q7_1_3
  have q8_2_0 : w8.cell? ⟨w6.heap.size, 0, none⟩ = some (.slice an6 ns6.length cn6) := by
    rw [hb8.cell (p := ⟨w6.heap.size, 0, none⟩) (show w6.heap.size < _ by (try simp) <;> (try omega))]
    exact q7_2_0
  have q8_2_1 : w8.cell? ⟨w6.heap.size, 1, none⟩ = some (.slice ast6 ss6.length cst6) := by
    rw [hb8.cell (p := ⟨w6.heap.size, 1, none⟩) (show w6.heap.size < _ by (try simp) <;> (try omega))]
    exact q7_2_1
  have q8_2_2 : w8.cell? ⟨w6.heap.size, 2, none⟩ = some (.slice none 0 0) := by
    rw [hb8.cell (p := ⟨w6.heap.size, 2, none⟩) (show w6.heap.size < _ by (try simp) <;> (try omega))]
    exact q7_2_2
  have q8_2_3 : w8.cell? ⟨w6.heap.size, 3, none⟩ = some (.slice none 0 0) := by
    rw [hb8.cell (p := ⟨w6.heap.size, 3, none⟩) (show w6.heap.size < _ by (try simp) <;> (try omega))]
    exact q7_2_3
  have hl8_2 : w6.heap.size < w8.heap.size := by omega
  clear q7_2_0 q7_2_1 q7_2_2 q7_2_3
  have HB8 : Hid (Below w.heap.size w w8) := HB7.out.trans (hb8.mono (by (try simp) <;> (try omega)))
  clear hb8
  go_wp2_with fail
  go_ret
  exact ⟨rfl, HB8.out⟩
end
section
open Go.ChangeShapes Go.WideShapes Go.ChangeAt Go.RowKit
set_option maxRecDepth 100000 in
theorem fnExactNewCluster_lifted (os : Os) (started : os.Started) (H : Type) (enc : TypeId × Value → H) :
    ReturnsInHanded {} Try.checked os 7 .any (Rows.fnExactNewClusterSpec.pre6 enc Try.prog Try.f7 Rows.fnExactNewClusterRow.domain false) (Rows.fnExactNewClusterSpec.post enc Try.prog Try.f7 false true false false) := by
  refine returnsInHanded_of_change (C := Try.checked) Try.own started (by kernel_rfl) Try.func7
    (ChangeSpec.witness6 (enc := enc) (C := Try.checked) false ⟨#[], #[.int .i64 0], []⟩ 8 (by kernel_rfl) (by kernel_rfl) (by kernel_rfl) (by kernel_rfl)) ?_
  intro W base args ds gs before hval hW hcnd _
  have hW' := hW
  obtain ⟨p, q, hA, hV, rfl, hfz, hnd⟩ := hW
  obtain ⟨v0, d0, rfl, rfl, h0⟩ := trodAll_one hA
  obtain ⟨rfl, rfl⟩ := trodVars_none hV
  obtain ⟨i, rfl, rfl, rfl, wi⟩ := open_int Try.underlying3 (hval 0 3 v0 rfl rfl) h0
  exact law_calls rfl rfl (by kernel_rfl) hW' rfl (lawNewCl_c i W)
theorem fnExactNewCluster_holds : Rows.FnExactNewClusterSaid :=
  OpenClaim.holds_of_wide 7 Try.f7 rfl rfl rfl rfl rfl rfl rfl ⟨rfl, rfl, rfl, rfl, rfl⟩ rfl rfl rfl rfl rfl (by kernel_rfl) Try.func7 (by kernel_rfl)
    (of_decide_eq_true (by kernel_rfl)) (by unfold Func.isWrapper; first | (rw [if_pos (by decide +kernel)]; kernel_rfl) | (rw [if_neg (by decide +kernel)]; exact ⟨rfl, rfl⟩))
    (fun os started H enc _ => fnExactNewCluster_lifted os started H enc)
end
end Go.Proofs.Ytckaccadgbcohaa
