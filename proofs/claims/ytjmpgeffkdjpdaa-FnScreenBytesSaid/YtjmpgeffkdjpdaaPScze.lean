/- Contracts of the functions that the claim reaches. No conditions but sizes. -/
import Derived.Test.YtjmpgeffkdjpdaaPSczd
import Derived.Laws.Bits128
namespace Go.Proofs.Ytjmpgeffkdjpdaa
set_option linter.unusedVariables false
set_option linter.unusedSimpArgs false
set_option maxRecDepth 100000
set_option maxHeartbeats 16000000
section
open Go.RowKit
theorem csi76_c (lo b : Nat) (s : Scr) (g cc : Nat) (ah : Option Addr) (dh : Nat) (w : World) (kd : Int) (xs : List Int) (aa : Option Addr) (ca : Nat) (tx : ByteArray) (h : ScrAt lo b 0 s g cc ah dh w) (ok : ScrOK s) (hlo : lo ≤ w.heap.size) (ha : Sl intE 1 w aa xs) (hna : ∀ k ∈ blkOf aa, k ≠ b ∧ k ≠ g ∧ k ∉ blkOf ah) (hx8 : xs.length ≤ 8) (hxr : ∀ x ∈ xs, -1 ≤ x ∧ x ≤ 9999) :
    Calls Try.prog 70 #[.pointer (some ⟨b, 0, none⟩), .agg #[.int .i64 kd, .int .i64 76, .bool false, .slice aa xs.length ca, .string tx]] w fun e w' => e = .returned (.tuple #[]) ∧ ScrR lo b 0 (csiS s 76 xs) g ah w w' := by
  have HS := Lib.hid h
  have HOK := Lib.hid ok
  have HA := Lib.hid ha
  have HNA := Lib.hid hna
  have HXR := Lib.hid hxr
  have HX8 := Lib.hid hx8
  have hw1 := ok.w1
  have hw2 := ok.w2
  have hh1 := ok.h1
  have hh2 := ok.h2
  have hx := ok.hx
  have hy := ok.hy
  have hcur := ok.cur
  have hcn := ok.cn
  have hlt := h.lt
  obtain ⟨n, hn⟩ : ∃ n, arg1 xs 0 = n := ⟨_, rfl⟩
  obtain ⟨A0, hA0⟩ : ∃ a, argA xs 0 1 = a := ⟨_, rfl⟩
  have hAb : -1 ≤ A0 ∧ A0 ≤ 9999 := by rw [← hA0]; exact argA_bd HXR.out (by omega) (by omega)
  have hm : max 1 A0 = (n : Int) := by rw [← hn, ← hA0]; unfold arg1; omega
  have hn1 : 1 ≤ n := by omega
  have hn2 : n ≤ 9999 := by omega
  have HN := Lib.hid hn
  have HA0 := Lib.hid hA0
  obtain ⟨p, hp⟩ : ∃ p, s.y * s.w = p := ⟨_, rfl⟩
  obtain ⟨mx, hmx⟩ : ∃ m, min s.x (s.w - 1) = m := ⟨_, rfl⟩
  obtain ⟨cr, hcr⟩ : ∃ c, curS s = c := ⟨_, rfl⟩
  obtain ⟨pn, hpn⟩ : ∃ q, (s.y + 1) * s.w = q := ⟨_, rfl⟩
  obtain ⟨nn, hnn⟩ : ∃ q, s.w * s.h = q := ⟨_, rfl⟩
  have hpi : (s.y : Int) * (s.w : Int) = (p : Int) := by rw [← hp]; exact (Int.natCast_mul _ _).symm
  have hpni : ((s.y : Int) + 1) * (s.w : Int) = (pn : Int) := by rw [← hpn]; exact (Int.natCast_mul (s.y + 1) s.w).symm
  have hnni : (s.w : Int) * (s.h : Int) = (nn : Int) := by rw [← hnn]; exact (Int.natCast_mul _ _).symm
  have hmi : min (s.x : Int) ((s.w : Int) - 1) = (mx : Int) := by omega
  have hcri : (p : Int) + (mx : Int) = (cr : Int) := by rw [← hcr, ← hp, ← hmx]; unfold curS; omega
  have hn240 : nn ≤ 240 := by rw [← hnn]; exact Nat.mul_le_mul hw2 hh2
  rw [hcr, hp, hpn, hnn] at hcur
  rw [hnn] at hcn
  obtain ⟨hc1, hc2, hc3⟩ := hcur
  have HCN := Lib.hid hcn
  have HP := Lib.hid hp
  have HMX := Lib.hid hmx
  have HCR := Lib.hid hcr
  have HPN := Lib.hid hpn
  have HNN := Lib.hid hnn
  have hwA : IntKind.i64.wrap ((s.w : Int) - 1) = (s.w : Int) - 1 := IntWalk.i64_in _ ⟨by omega, by omega⟩
  have hwB : IntKind.i64.wrap (p : Int) = (p : Int) := IntWalk.i64_in _ ⟨by omega, by omega⟩
  have hwC : IntKind.i64.wrap (cr : Int) = (cr : Int) := IntWalk.i64_in _ ⟨by omega, by omega⟩
  have hwD : IntKind.i64.wrap (pn : Int) = (pn : Int) := IntWalk.i64_in _ ⟨by omega, by omega⟩
  have hwE : IntKind.i64.wrap (nn : Int) = (nn : Int) := IntWalk.i64_in _ ⟨by omega, by omega⟩
  have hwF : IntKind.i64.wrap ((s.y : Int) + 1) = (s.y : Int) + 1 := IntWalk.i64_in _ ⟨by omega, by omega⟩
  have hwG : IntKind.i64.wrap ((cr : Int) + 1) = (cr : Int) + 1 := IntWalk.i64_in _ ⟨by omega, by omega⟩
  obtain ⟨ln, hln⟩ : ∃ l, xs.length = l := ⟨_, rfl⟩
  have HLN := Lib.hid hln
  have HCALL : ∀ (i : Nat) (d : Int) (W : World), i ≤ 7 → Sl intE 1 W aa xs → Calls Try.prog 84 #[.agg #[.int .i64 kd, .int .i64 76, .bool false, .slice aa ln ca, .string tx], .int .i64 i, .int .i64 d] W fun e w' => e = .returned (.int .i64 (argA xs i d)) ∧ Below W.heap.size W w' := fun i d W hi hW => by
    rw [← hln]
    exact l03ArgG_c kd 76 false tx xs aa ca i d W hW hi hx8
  rw [hln]
  clear h ok ha hna hxr hx8 hn hA0 hp hmx hcr hpn hnn hcn hln
  go_enter Try.func70, Try.ntmps70
  go_wp2_with fail
  refine (HCALL 0 1 _ (by omega) (HA.out.alloc _)).mono ?_
  rintro e v0 ⟨rfl, hb0⟩
  rw [HA0.out]
  have HB0 : Hid (Below w.heap.size w v0) := Lib.hid (((Below.refl w.heap.size w).alloc (Nat.le_refl _) _).trans (hb0.mono (by simp)))
  have hz0 := HB0.out.size
  have q_l : w.heap.size < v0.heap.size := by have := hb0.size; simp at this; omega
  have q_0 : v0.cell? ⟨w.heap.size, 0, none⟩ = some (.int .i64 kd) := kC hb0 (by simp) (by simp [go_sem])
  have q_1 : v0.cell? ⟨w.heap.size, 1, none⟩ = some (.int .i64 76) := kC hb0 (by simp) (by simp [go_sem])
  have q_2 : v0.cell? ⟨w.heap.size, 2, none⟩ = some (.bool false) := kC hb0 (by simp) (by simp [go_sem])
  have q_3 : v0.cell? ⟨w.heap.size, 3, none⟩ = some (.slice aa ln ca) := kC hb0 (by simp) (by simp [go_sem])
  have q_4 : v0.cell? ⟨w.heap.size, 4, none⟩ = some (.string tx) := kC hb0 (by simp) (by simp [go_sem])
  clear hb0
  have q_b : ¬ w.heap.size = b := by omega
  have HA_nb : ∀ k ∈ blkOf aa, ¬ k = b := fun k hk => (HNA.out k hk).1
  have Hv0 := Lib.hid (HS.out.below HB0.out)
  have HA2 := Lib.hid (HA.out.keep HB0.out)
  have HUv0 : Hid (Upd b 0 (0 + 12) (fun k => k = g ∨ k ∈ blkOf ah) w v0) := Lib.hid (Upd.refl'.below HB0.out HS.out.lt)
  have HA2_nb := HA_nb
  have k_0 := Hv0.out.e0
  have k_1 := Hv0.out.e1
  have k_2 := Hv0.out.e2
  have k_3 := Hv0.out.e3
  have k_4 := Hv0.out.e4
  have k_5 := Hv0.out.e5
  have k_6 := Hv0.out.e6
  have k_7 := Hv0.out.e7
  have k_8 := Hv0.out.e8
  have k_9 := Hv0.out.e9
  have k_10 := Hv0.out.e10
  have k_11 := Hv0.out.e11
  have k_f := Hv0.out.fz
  have k_l := Hv0.out.lt
  go_upto_region 4 with fail
  have hSc1 := And.intro k_0 (And.intro k_2 k_3)
  refine wp_region_G (fun w' => w'.cell? ⟨b, 0, none⟩ = some (.int .i64 (s.w : Int)) ∧ w'.cell? ⟨b, 2, none⟩ = some (.int .i64 (s.x : Int)) ∧ w'.cell? ⟨b, 3, none⟩ = some (.int .i64 (s.y : Int))) (fun i => false) (by kernel_rfl) hSc1 ?_
  refine tW ?_ 0 rfl ?_ ?_; rotate_left
  · intro w' hSw; go_simp; try rfl
  try simp only [Act.put,j1,j2,j3,j4,j5,j6]
  refine tW ?_ 1 rfl ?_ ?_; rotate_left
  · intro w' hSw; go_simp; try rfl
  try simp only [Act.put,j1,j2,j3,j4,j5,j6]
  refine tW ?_ 2 rfl ?_ ?_; rotate_left
  · intro w' hSw; go_simp; try rfl
  try simp only [Act.put,j1,j2,j3,j4,j5,j6]
  refine tL ?_ 3 rfl hSc1 ?_ ?_; rotate_left
  · intro w' hSw; obtain ⟨s0, s1, s2⟩ := hSw; go_simp; try rfl
  try simp only [Act.put,j1,j2,j3,j4,j5,j6]
  refine tW ?_ 4 rfl ?_ ?_; rotate_left
  · intro w' hSw; go_simp; try rfl
  try simp only [Act.put,j1,j2,j3,j4,j5,j6]
  refine tW ?_ 5 rfl ?_ ?_; rotate_left
  · intro w' hSw; go_simp; try rfl
  try simp only [Act.put,j1,j2,j3,j4,j5,j6]
  refine tW ?_ 6 rfl ?_ ?_; rotate_left
  · intro w' hSw; go_simp; try rfl
  try simp only [Act.put,j1,j2,j3,j4,j5,j6]
  refine tL ?_ 7 rfl hSc1 ?_ ?_; rotate_left
  · intro w' hSw; obtain ⟨s0, s1, s2⟩ := hSw; go_simp; try rfl
  try simp only [Act.put,j1,j2,j3,j4,j5,j6]
  refine tW ?_ 8 rfl ?_ ?_; rotate_left
  · intro w' hSw; go_simp; try rfl
  try simp only [Act.put,j1,j2,j3,j4,j5,j6]
  refine tW ?_ 9 rfl ?_ ?_; rotate_left
  · intro w' hSw; go_simp; try rfl
  try simp only [Act.put,j1,j2,j3,j4,j5,j6]
  refine tW ?_ 10 rfl ?_ ?_; rotate_left
  · intro w' hSw; go_simp; try rfl
  try simp only [Act.put,j1,j2,j3,j4,j5,j6]
  refine tW ?_ 11 rfl ?_ ?_; rotate_left
  · intro w' hSw; go_simp; try rfl
  try simp only [Act.put,j1,j2,j3,j4,j5,j6]
  refine tL ?_ 12 rfl hSc1 ?_ ?_; rotate_left
  · intro w' hSw; obtain ⟨s0, s1, s2⟩ := hSw; go_simp; try rfl
  try simp only [Act.put,j1,j2,j3,j4,j5,j6]
  refine tW ?_ 13 rfl ?_ ?_; rotate_left
  · intro w' hSw; go_simp; try rfl
  try simp only [Act.put,j1,j2,j3,j4,j5,j6]
  refine tW ?_ 14 rfl ?_ ?_; rotate_left
  · intro w' hSw; go_simp; try rfl
  try simp only [Act.put,j1,j2,j3,j4,j5,j6]
  refine tW ?_ 15 rfl ?_ ?_; rotate_left
  · intro w' hSw; go_simp; try rfl
  try simp only [Act.put,j1,j2,j3,j4,j5,j6]
  refine tL ?_ 16 rfl hSc1 ?_ ?_; rotate_left
  · intro w' hSw; obtain ⟨s0, s1, s2⟩ := hSw; go_simp; try rfl
  try simp only [Act.put,j1,j2,j3,j4,j5,j6]
  refine tW ?_ 17 rfl ?_ ?_; rotate_left
  · intro w' hSw; go_simp; try rfl
  try simp only [Act.put,j1,j2,j3,j4,j5,j6]
  refine tW ?_ 18 rfl ?_ ?_; rotate_left
  · intro w' hSw; go_simp; try rfl
  try simp only [Act.put,j1,j2,j3,j4,j5,j6]
  refine tW ?_ 19 rfl ?_ ?_; rotate_left
  · intro w' hSw; go_simp; try rfl
  try simp only [Act.put,j1,j2,j3,j4,j5,j6]
  refine tW ?_ 20 rfl ?_ ?_; rotate_left
  · intro w' hSw; go_simp; try rfl
  try simp only [Act.put,j1,j2,j3,j4,j5,j6]
  refine wpAnyG_done (by kernel_rfl) ?_ _
  obtain ⟨v1, hv1⟩ : ∃ x, v0.drew = x := ⟨_, rfl⟩
  have HBv1 : Hid (Below v0.heap.size v0 v1) := Lib.hid (by rw [← hv1]; exact (Below.refl _ _).drew)
  rw [hv1]
  have hzv1 := HBv1.out.size
  have Hv1 := Lib.hid (Hv0.out.below HBv1.out)
  have HUv1 : Hid (Upd b 0 (0 + 12) (fun k => k = g ∨ k ∈ blkOf ah) w v1) := Lib.hid (HUv0.out.below HBv1.out Hv0.out.lt)
  have qn_0 := kC HBv1.out q_l q_0
  have qn_1 := kC HBv1.out q_l q_1
  have qn_2 := kC HBv1.out q_l q_2
  have qn_3 := kC HBv1.out q_l q_3
  have qn_4 := kC HBv1.out q_l q_4
  have qn_l := Nat.lt_of_lt_of_le q_l HBv1.out.size
  clear q_0 q_1 q_2 q_3 q_4 q_l
  have HA2n := Lib.hid (HA2.out.keep HBv1.out)
  clear k_f k_l k_0 k_1 k_2 k_3 k_4 k_5 k_6 k_7 k_8 k_9 k_10 k_11 hv1 hSc1
  have k_0 := Hv1.out.e0
  have k_1 := Hv1.out.e1
  have k_2 := Hv1.out.e2
  have k_3 := Hv1.out.e3
  have k_4 := Hv1.out.e4
  have k_5 := Hv1.out.e5
  have k_6 := Hv1.out.e6
  have k_7 := Hv1.out.e7
  have k_8 := Hv1.out.e8
  have k_9 := Hv1.out.e9
  have k_10 := Hv1.out.e10
  have k_11 := Hv1.out.e11
  have k_f := Hv1.out.fz
  have k_l := Hv1.out.lt
  by_cases hin : s.top ≤ s.y ∧ s.y ≤ s.bot
  · have HI : Hid (inB (s.y : Int) (s.top : Int) (s.bot : Int) = true) := Lib.hid (by simp only [inB, Bool.and_eq_true, decide_eq_true_eq]; omega)
    have htb := HOK.out.tb
    have hbh := HOK.out.bh
    obtain ⟨m, hmm⟩ : ∃ m, min n (s.bot - s.y + 1) = m := ⟨_, rfl⟩
    have hmi2 : min (n : Int) ((s.bot : Int) - (s.y : Int) + 1) = (m : Int) := by omega
    have hm10 : m ≤ 10 := by omega
    have HM := Lib.hid hmm
    have hwI : IntKind.i64.wrap ((s.bot : Int) - (s.y : Int)) = (s.bot : Int) - (s.y : Int) := IntWalk.i64_in _ ⟨by omega, by omega⟩
    have hwJ : IntKind.i64.wrap ((s.bot : Int) - (s.y : Int) + 1) = (s.bot : Int) - (s.y : Int) + 1 := IntWalk.i64_in _ ⟨by omega, by omega⟩
    have hwK : IntKind.i64.wrap (-(m : Int)) = -(m : Int) := IntWalk.i64_in _ ⟨by omega, by omega⟩
    have HIN := Lib.hid hin
    clear hin hmm
    go_upto_region 36 with fail
    have hSc2 := And.intro k_3 (And.intro k_5 k_6)
    refine wp_region_G (fun w' => w'.cell? ⟨b, 3, none⟩ = some (.int .i64 (s.y : Int)) ∧ w'.cell? ⟨b, 5, none⟩ = some (.int .i64 (s.top : Int)) ∧ w'.cell? ⟨b, 6, none⟩ = some (.int .i64 (s.bot : Int))) (fun i => false) (by kernel_rfl) hSc2 ?_
    refine tW ?_ 0 rfl ?_ ?_; rotate_left
    · intro w' hSw; go_simp; try rfl
    try simp only [Act.put,j1,j2,j3,j4,j5,j6]
    refine tW ?_ 1 rfl ?_ ?_; rotate_left
    · intro w' hSw; go_simp; try rfl
    try simp only [Act.put,j1,j2,j3,j4,j5,j6]
    refine tW ?_ 2 rfl ?_ ?_; rotate_left
    · intro w' hSw; go_simp; try rfl
    try simp only [Act.put,j1,j2,j3,j4,j5,j6]
    refine tL ?_ 3 rfl hSc2 ?_ ?_; rotate_left
    · intro w' hSw; obtain ⟨s0, s1, s2⟩ := hSw; go_simp; try rfl
    try simp only [Act.put,j1,j2,j3,j4,j5,j6]
    refine tW ?_ 4 rfl ?_ ?_; rotate_left
    · intro w' hSw; go_simp; try rfl
    try simp only [Act.put,j1,j2,j3,j4,j5,j6]
    refine tW ?_ 5 rfl ?_ ?_; rotate_left
    · intro w' hSw; go_simp; try rfl
    try simp only [Act.put,j1,j2,j3,j4,j5,j6]
    refine tW ?_ 6 rfl ?_ ?_; rotate_left
    · intro w' hSw; go_simp; try rfl
    try simp only [Act.put,j1,j2,j3,j4,j5,j6]
    refine tL ?_ 7 rfl hSc2 ?_ ?_; rotate_left
    · intro w' hSw; obtain ⟨s0, s1, s2⟩ := hSw; go_simp; try rfl
    try simp only [Act.put,j1,j2,j3,j4,j5,j6]
    refine tW ?_ 8 rfl ?_ ?_; rotate_left
    · intro w' hSw; go_simp; try rfl
    try simp only [Act.put,j1,j2,j3,j4,j5,j6]
    refine tW ?_ 9 rfl ?_ ?_; rotate_left
    · intro w' hSw; go_simp; try rfl
    try simp only [Act.put,j1,j2,j3,j4,j5,j6]
    refine tW ?_ 10 rfl ?_ ?_; rotate_left
    · intro w' hSw; go_simp; try rfl
    try simp only [Act.put,j1,j2,j3,j4,j5,j6]
    refine tL ?_ 11 rfl hSc2 ?_ ?_; rotate_left
    · intro w' hSw; obtain ⟨s0, s1, s2⟩ := hSw; go_simp; try rfl
    try simp only [Act.put,j1,j2,j3,j4,j5,j6]
    refine wpAnyG_one (i := 12) (by kernel_rfl) rfl hSc2 (fun K' hK => ?_)
    simp only [j1,j2,j3]
    go_simp
    refine (l01In_c _ _ _ _).mono ?_
    rw [HI.out]
    rintro e x1 ⟨rfl, rfl⟩
    refine hK.out _ _ (Or.inr hSc2) ?_
    clear hK K'
    try simp only [Act.put,j1,j2,j3,j4,j5,j6]
    refine wpAnyG_done (by kernel_rfl) ?_ _
    obtain ⟨v2, hv2⟩ : ∃ x, v1.drew = x := ⟨_, rfl⟩
    have HBv2 : Hid (Below v1.heap.size v1 v2) := Lib.hid (by rw [← hv2]; exact (Below.refl _ _).drew)
    rw [hv2]
    have hzv2 := HBv2.out.size
    have Hv2 := Lib.hid (Hv1.out.below HBv2.out)
    have HUv2 : Hid (Upd b 0 (0 + 12) (fun k => k = g ∨ k ∈ blkOf ah) w v2) := Lib.hid (HUv1.out.below HBv2.out Hv1.out.lt)
    have qnn_0 := kC HBv2.out qn_l qn_0
    have qnn_1 := kC HBv2.out qn_l qn_1
    have qnn_2 := kC HBv2.out qn_l qn_2
    have qnn_3 := kC HBv2.out qn_l qn_3
    have qnn_4 := kC HBv2.out qn_l qn_4
    have qnn_l := Nat.lt_of_lt_of_le qn_l HBv2.out.size
    clear qn_0 qn_1 qn_2 qn_3 qn_4 qn_l
    have HA2nn := Lib.hid (HA2n.out.keep HBv2.out)
    clear k_f k_l k_0 k_1 k_2 k_3 k_4 k_5 k_6 k_7 k_8 k_9 k_10 k_11 hv2 hSc2
    have k_0 := Hv2.out.e0
    have k_1 := Hv2.out.e1
    have k_2 := Hv2.out.e2
    have k_3 := Hv2.out.e3
    have k_4 := Hv2.out.e4
    have k_5 := Hv2.out.e5
    have k_6 := Hv2.out.e6
    have k_7 := Hv2.out.e7
    have k_8 := Hv2.out.e8
    have k_9 := Hv2.out.e9
    have k_10 := Hv2.out.e10
    have k_11 := Hv2.out.e11
    have k_f := Hv2.out.fz
    have k_l := Hv2.out.lt
    go_upto_region 37 with fail
    have hSc3 := And.intro k_3 k_6
    refine wp_region_G (fun w' => w'.cell? ⟨b, 3, none⟩ = some (.int .i64 (s.y : Int)) ∧ w'.cell? ⟨b, 6, none⟩ = some (.int .i64 (s.bot : Int))) (fun i => false) (by kernel_rfl) hSc3 ?_
    refine tW ?_ 0 rfl ?_ ?_; rotate_left
    · intro w' hSw; go_simp; try rfl
    try simp only [Act.put,j1,j2,j3,j4,j5,j6]
    refine tW ?_ 1 rfl ?_ ?_; rotate_left
    · intro w' hSw; go_simp; try rfl
    try simp only [Act.put,j1,j2,j3,j4,j5,j6]
    refine tW ?_ 2 rfl ?_ ?_; rotate_left
    · intro w' hSw; go_simp; try rfl
    try simp only [Act.put,j1,j2,j3,j4,j5,j6]
    refine tW ?_ 3 rfl ?_ ?_; rotate_left
    · intro w' hSw; go_simp; try rfl
    try simp only [Act.put,j1,j2,j3,j4,j5,j6]
    refine tL ?_ 4 rfl hSc3 ?_ ?_; rotate_left
    · intro w' hSw; obtain ⟨s0, s1⟩ := hSw; go_simp; try rfl
    try simp only [Act.put,j1,j2,j3,j4,j5,j6]
    refine tW ?_ 5 rfl ?_ ?_; rotate_left
    · intro w' hSw; go_simp; try rfl
    try simp only [Act.put,j1,j2,j3,j4,j5,j6]
    refine tW ?_ 6 rfl ?_ ?_; rotate_left
    · intro w' hSw; go_simp; try rfl
    try simp only [Act.put,j1,j2,j3,j4,j5,j6]
    refine tW ?_ 7 rfl ?_ ?_; rotate_left
    · intro w' hSw; go_simp; try rfl
    try simp only [Act.put,j1,j2,j3,j4,j5,j6]
    refine tL ?_ 8 rfl hSc3 ?_ ?_; rotate_left
    · intro w' hSw; obtain ⟨s0, s1⟩ := hSw; go_simp; try rfl
    try simp only [Act.put,j1,j2,j3,j4,j5,j6]
    refine tW ?_ 9 rfl ?_ ?_; rotate_left
    · intro w' hSw; go_simp; try rfl
    try simp only [Act.put,j1,j2,j3,j4,j5,j6]
    refine tW ?_ 10 rfl ?_ ?_; rotate_left
    · intro w' hSw; go_simp; try rfl
    try simp only [Act.put,j1,j2,j3,j4,j5,j6]
    refine tW ?_ 11 rfl ?_ ?_; rotate_left
    · intro w' hSw; go_simp; try rfl
    try simp only [Act.put,j1,j2,j3,j4,j5,j6]
    refine tW ?_ 12 rfl ?_ ?_; rotate_left
    · intro w' hSw; go_simp; try rfl
    try simp only [Act.put,j1,j2,j3,j4,j5,j6]
    refine wpAnyG_done (by kernel_rfl) ?_ _
    obtain ⟨v3, hv3⟩ : ∃ x, v2.drew = x := ⟨_, rfl⟩
    have HBv3 : Hid (Below v2.heap.size v2 v3) := Lib.hid (by rw [← hv3]; exact (Below.refl _ _).drew)
    rw [hv3]
    have hzv3 := HBv3.out.size
    have Hv3 := Lib.hid (Hv2.out.below HBv3.out)
    have HUv3 : Hid (Upd b 0 (0 + 12) (fun k => k = g ∨ k ∈ blkOf ah) w v3) := Lib.hid (HUv2.out.below HBv3.out Hv2.out.lt)
    have qnnn_0 := kC HBv3.out qnn_l qnn_0
    have qnnn_1 := kC HBv3.out qnn_l qnn_1
    have qnnn_2 := kC HBv3.out qnn_l qnn_2
    have qnnn_3 := kC HBv3.out qnn_l qnn_3
    have qnnn_4 := kC HBv3.out qnn_l qnn_4
    have qnnn_l := Nat.lt_of_lt_of_le qnn_l HBv3.out.size
    clear qnn_0 qnn_1 qnn_2 qnn_3 qnn_4 qnn_l
    have HA2nnn := Lib.hid (HA2nn.out.keep HBv3.out)
    clear k_f k_l k_0 k_1 k_2 k_3 k_4 k_5 k_6 k_7 k_8 k_9 k_10 k_11 hv3 hSc3
    have k_0 := Hv3.out.e0
    have k_1 := Hv3.out.e1
    have k_2 := Hv3.out.e2
    have k_3 := Hv3.out.e3
    have k_4 := Hv3.out.e4
    have k_5 := Hv3.out.e5
    have k_6 := Hv3.out.e6
    have k_7 := Hv3.out.e7
    have k_8 := Hv3.out.e8
    have k_9 := Hv3.out.e9
    have k_10 := Hv3.out.e10
    have k_11 := Hv3.out.e11
    have k_f := Hv3.out.fz
    have k_l := Hv3.out.lt
    go_upto_region 40 with fail
    have hSc4 := And.intro k_3 k_6
    refine wp_region_G (fun w' => w'.cell? ⟨b, 3, none⟩ = some (.int .i64 (s.y : Int)) ∧ w'.cell? ⟨b, 6, none⟩ = some (.int .i64 (s.bot : Int))) (fun i => false) (by kernel_rfl) hSc4 ?_
    refine tW ?_ 0 rfl ?_ ?_; rotate_left
    · intro w' hSw; go_simp; try rfl
    try simp only [Act.put,j1,j2,j3,j4,j5,j6]
    refine tW ?_ 1 rfl ?_ ?_; rotate_left
    · intro w' hSw; go_simp; try rfl
    try simp only [Act.put,j1,j2,j3,j4,j5,j6]
    refine tW ?_ 2 rfl ?_ ?_; rotate_left
    · intro w' hSw; go_simp; try rfl
    try simp only [Act.put,j1,j2,j3,j4,j5,j6]
    refine tW ?_ 3 rfl ?_ ?_; rotate_left
    · intro w' hSw; go_simp; try rfl
    try simp only [Act.put,j1,j2,j3,j4,j5,j6]
    refine tL ?_ 4 rfl hSc4 ?_ ?_; rotate_left
    · intro w' hSw; obtain ⟨s0, s1⟩ := hSw; go_simp; try rfl
    try simp only [Act.put,j1,j2,j3,j4,j5,j6]
    refine tW ?_ 5 rfl ?_ ?_; rotate_left
    · intro w' hSw; go_simp; try rfl
    try simp only [Act.put,j1,j2,j3,j4,j5,j6]
    refine tW ?_ 6 rfl ?_ ?_; rotate_left
    · intro w' hSw; go_simp; try rfl
    try simp only [Act.put,j1,j2,j3,j4,j5,j6]
    refine tW ?_ 7 rfl ?_ ?_; rotate_left
    · intro w' hSw; go_simp; try rfl
    try simp only [Act.put,j1,j2,j3,j4,j5,j6]
    refine tL ?_ 8 rfl hSc4 ?_ ?_; rotate_left
    · intro w' hSw; obtain ⟨s0, s1⟩ := hSw; go_simp; try rfl
    try simp only [Act.put,j1,j2,j3,j4,j5,j6]
    refine tW ?_ 9 rfl ?_ ?_; rotate_left
    · intro w' hSw; go_simp; try rfl
    try simp only [Act.put,j1,j2,j3,j4,j5,j6]
    refine wpAnyG_one (i := 10) (by kernel_rfl) rfl hSc4 (fun K' hK => ?_)
    simp only [j1,j2,j3]
    go_simp
    refine (withinD_c lo b s g cc ah dh _ s.y s.bot m Hv3.out.drew HOK.out HIN.out.2 HOK.out.bh hm10 (by show lo ≤ v3.heap.size; omega)).mono ?_
    rintro e x1 ⟨rfl, g1, cc1, ah1, dh1, ha, hu, hg, hh⟩
    have e1 := scD_same s.y s.bot s m
    have HX := Lib.hid ha
    have HR : Hid (Upd b 0 (0 + 12) (fun k => k = g ∨ k ∈ blkOf ah) w x1 ∧ (g1 = g ∨ w.heap.size ≤ g1) ∧ ∀ i ∈ blkOf ah1, i ∈ blkOf ah ∨ w.heap.size ≤ i) := Lib.hid (by
      obtain ⟨g2, c2, a2, d2, _⟩ : ∃ g2 c2 a2 d2, ScrAt lo b 0 (scD s.y s.bot m s) g2 c2 a2 d2 x1 := ⟨_, _, _, _, ha⟩
      refine ⟨HUv3.out.drew.transN hu (fun i hi => .inl hi), hg.imp id (fun h => by have : v3.heap.size ≤ g1 := h; omega), fun i hi => (hh i hi).imp id (fun h => by have : v3.heap.size ≤ i := h; omega)⟩)
    have hSx : x1.cell? ⟨b, 3, none⟩ = some (.int .i64 (s.y : Int)) ∧ x1.cell? ⟨b, 6, none⟩ = some (.int .i64 (s.bot : Int)) := ⟨by have := ha.c3; rw [e1.2.2.2.1] at this; exact this, by have := ha.c6; rw [e1.2.2.2.2.2.2.1] at this; exact this⟩
    have z_2 : x1.cell? ⟨b, 2, none⟩ = some (.int .i64 s.x) := by have := ha.c2; rw [e1.2.2.1] at this; exact this
    have z_f := ha.fz
    have z_l := ha.lt
    clear ha hu hg hh
    refine hK.out _ _ (Or.inr hSx) ?_
    clear hK K'
    try simp only [Act.put,j1,j2,j3,j4,j5,j6]
    refine wpAnyG_done (by kernel_rfl) ?_ _
    go_wp2_with fail
    first | refine bodyPost_end (v := .tuple #[]) (by simp [results, Try.results70]) rfl ?_ | refine bodyPost_ret (v := .tuple #[]) (by simp [results, Try.results70]) rfl ?_
    refine ⟨rfl, ?_⟩
    unfold csiS
    rw [if_neg (by decide), if_neg (by decide), if_neg (by decide), if_neg (by decide), if_neg (by decide), if_neg (by decide), if_neg (by decide), if_pos (by decide)]
    rw [if_pos HIN.out, HN.out, HM.out]
    exact ScrR.trans HX.out HR.out.1 HR.out.2.1 HR.out.2.2 (.mk (HX.out.setv2 0 rfl) (Upd.refl'.set2 _))
  · have HI : Hid (inB (s.y : Int) (s.top : Int) (s.bot : Int) = false) := Lib.hid (by simp only [inB, Bool.and_eq_false_iff, decide_eq_false_iff_not]; omega)
    go_upto_region 36 with fail
    have hSc2 := And.intro k_3 (And.intro k_5 k_6)
    refine wp_region_G (fun w' => w'.cell? ⟨b, 3, none⟩ = some (.int .i64 (s.y : Int)) ∧ w'.cell? ⟨b, 5, none⟩ = some (.int .i64 (s.top : Int)) ∧ w'.cell? ⟨b, 6, none⟩ = some (.int .i64 (s.bot : Int))) (fun i => false) (by kernel_rfl) hSc2 ?_
    refine tW ?_ 0 rfl ?_ ?_; rotate_left
    · intro w' hSw; go_simp; try rfl
    try simp only [Act.put,j1,j2,j3,j4,j5,j6]
    refine tW ?_ 1 rfl ?_ ?_; rotate_left
    · intro w' hSw; go_simp; try rfl
    try simp only [Act.put,j1,j2,j3,j4,j5,j6]
    refine tW ?_ 2 rfl ?_ ?_; rotate_left
    · intro w' hSw; go_simp; try rfl
    try simp only [Act.put,j1,j2,j3,j4,j5,j6]
    refine tL ?_ 3 rfl hSc2 ?_ ?_; rotate_left
    · intro w' hSw; obtain ⟨s0, s1, s2⟩ := hSw; go_simp; try rfl
    try simp only [Act.put,j1,j2,j3,j4,j5,j6]
    refine tW ?_ 4 rfl ?_ ?_; rotate_left
    · intro w' hSw; go_simp; try rfl
    try simp only [Act.put,j1,j2,j3,j4,j5,j6]
    refine tW ?_ 5 rfl ?_ ?_; rotate_left
    · intro w' hSw; go_simp; try rfl
    try simp only [Act.put,j1,j2,j3,j4,j5,j6]
    refine tW ?_ 6 rfl ?_ ?_; rotate_left
    · intro w' hSw; go_simp; try rfl
    try simp only [Act.put,j1,j2,j3,j4,j5,j6]
    refine tL ?_ 7 rfl hSc2 ?_ ?_; rotate_left
    · intro w' hSw; obtain ⟨s0, s1, s2⟩ := hSw; go_simp; try rfl
    try simp only [Act.put,j1,j2,j3,j4,j5,j6]
    refine tW ?_ 8 rfl ?_ ?_; rotate_left
    · intro w' hSw; go_simp; try rfl
    try simp only [Act.put,j1,j2,j3,j4,j5,j6]
    refine tW ?_ 9 rfl ?_ ?_; rotate_left
    · intro w' hSw; go_simp; try rfl
    try simp only [Act.put,j1,j2,j3,j4,j5,j6]
    refine tW ?_ 10 rfl ?_ ?_; rotate_left
    · intro w' hSw; go_simp; try rfl
    try simp only [Act.put,j1,j2,j3,j4,j5,j6]
    refine tL ?_ 11 rfl hSc2 ?_ ?_; rotate_left
    · intro w' hSw; obtain ⟨s0, s1, s2⟩ := hSw; go_simp; try rfl
    try simp only [Act.put,j1,j2,j3,j4,j5,j6]
    refine wpAnyG_one (i := 12) (by kernel_rfl) rfl hSc2 (fun K' hK => ?_)
    simp only [j1,j2,j3]
    go_simp
    refine (l01In_c _ _ _ _).mono ?_
    rw [HI.out]
    rintro e x1 ⟨rfl, rfl⟩
    refine hK.out _ _ (Or.inr hSc2) ?_
    clear hK K'
    try simp only [Act.put,j1,j2,j3,j4,j5,j6]
    refine wpAnyG_done (by kernel_rfl) ?_ _
    obtain ⟨v2, hv2⟩ : ∃ x, v1.drew = x := ⟨_, rfl⟩
    have HBv2 : Hid (Below v1.heap.size v1 v2) := Lib.hid (by rw [← hv2]; exact (Below.refl _ _).drew)
    rw [hv2]
    have hzv2 := HBv2.out.size
    have Hv2 := Lib.hid (Hv1.out.below HBv2.out)
    have HUv2 : Hid (Upd b 0 (0 + 12) (fun k => k = g ∨ k ∈ blkOf ah) w v2) := Lib.hid (HUv1.out.below HBv2.out Hv1.out.lt)
    have qnn_0 := kC HBv2.out qn_l qn_0
    have qnn_1 := kC HBv2.out qn_l qn_1
    have qnn_2 := kC HBv2.out qn_l qn_2
    have qnn_3 := kC HBv2.out qn_l qn_3
    have qnn_4 := kC HBv2.out qn_l qn_4
    have qnn_l := Nat.lt_of_lt_of_le qn_l HBv2.out.size
    clear qn_0 qn_1 qn_2 qn_3 qn_4 qn_l
    have HA2nn := Lib.hid (HA2n.out.keep HBv2.out)
    clear k_f k_l k_0 k_1 k_2 k_3 k_4 k_5 k_6 k_7 k_8 k_9 k_10 k_11 hv2 hSc2
    have k_0 := Hv2.out.e0
    have k_1 := Hv2.out.e1
    have k_2 := Hv2.out.e2
    have k_3 := Hv2.out.e3
    have k_4 := Hv2.out.e4
    have k_5 := Hv2.out.e5
    have k_6 := Hv2.out.e6
    have k_7 := Hv2.out.e7
    have k_8 := Hv2.out.e8
    have k_9 := Hv2.out.e9
    have k_10 := Hv2.out.e10
    have k_11 := Hv2.out.e11
    have k_f := Hv2.out.fz
    have k_l := Hv2.out.lt
    go_wp2_with fail
    first | refine bodyPost_end (v := .tuple #[]) (by simp [results, Try.results70]) rfl ?_ | refine bodyPost_ret (v := .tuple #[]) (by simp [results, Try.results70]) rfl ?_
    refine ⟨rfl, ?_⟩
    unfold csiS
    rw [if_neg (by decide), if_neg (by decide), if_neg (by decide), if_neg (by decide), if_neg (by decide), if_neg (by decide), if_neg (by decide), if_pos (by decide)]
    rw [if_neg hin]
    exact .mk Hv2.out HUv2.out
theorem csi77_c (lo b : Nat) (s : Scr) (g cc : Nat) (ah : Option Addr) (dh : Nat) (w : World) (kd : Int) (xs : List Int) (aa : Option Addr) (ca : Nat) (tx : ByteArray) (h : ScrAt lo b 0 s g cc ah dh w) (ok : ScrOK s) (hlo : lo ≤ w.heap.size) (ha : Sl intE 1 w aa xs) (hna : ∀ k ∈ blkOf aa, k ≠ b ∧ k ≠ g ∧ k ∉ blkOf ah) (hx8 : xs.length ≤ 8) (hxr : ∀ x ∈ xs, -1 ≤ x ∧ x ≤ 9999) :
    Calls Try.prog 70 #[.pointer (some ⟨b, 0, none⟩), .agg #[.int .i64 kd, .int .i64 77, .bool false, .slice aa xs.length ca, .string tx]] w fun e w' => e = .returned (.tuple #[]) ∧ ScrR lo b 0 (csiS s 77 xs) g ah w w' := by
  have HS := Lib.hid h
  have HOK := Lib.hid ok
  have HA := Lib.hid ha
  have HNA := Lib.hid hna
  have HXR := Lib.hid hxr
  have HX8 := Lib.hid hx8
  have hw1 := ok.w1
  have hw2 := ok.w2
  have hh1 := ok.h1
  have hh2 := ok.h2
  have hx := ok.hx
  have hy := ok.hy
  have hcur := ok.cur
  have hcn := ok.cn
  have hlt := h.lt
  obtain ⟨n, hn⟩ : ∃ n, arg1 xs 0 = n := ⟨_, rfl⟩
  obtain ⟨A0, hA0⟩ : ∃ a, argA xs 0 1 = a := ⟨_, rfl⟩
  have hAb : -1 ≤ A0 ∧ A0 ≤ 9999 := by rw [← hA0]; exact argA_bd HXR.out (by omega) (by omega)
  have hm : max 1 A0 = (n : Int) := by rw [← hn, ← hA0]; unfold arg1; omega
  have hn1 : 1 ≤ n := by omega
  have hn2 : n ≤ 9999 := by omega
  have HN := Lib.hid hn
  have HA0 := Lib.hid hA0
  obtain ⟨p, hp⟩ : ∃ p, s.y * s.w = p := ⟨_, rfl⟩
  obtain ⟨mx, hmx⟩ : ∃ m, min s.x (s.w - 1) = m := ⟨_, rfl⟩
  obtain ⟨cr, hcr⟩ : ∃ c, curS s = c := ⟨_, rfl⟩
  obtain ⟨pn, hpn⟩ : ∃ q, (s.y + 1) * s.w = q := ⟨_, rfl⟩
  obtain ⟨nn, hnn⟩ : ∃ q, s.w * s.h = q := ⟨_, rfl⟩
  have hpi : (s.y : Int) * (s.w : Int) = (p : Int) := by rw [← hp]; exact (Int.natCast_mul _ _).symm
  have hpni : ((s.y : Int) + 1) * (s.w : Int) = (pn : Int) := by rw [← hpn]; exact (Int.natCast_mul (s.y + 1) s.w).symm
  have hnni : (s.w : Int) * (s.h : Int) = (nn : Int) := by rw [← hnn]; exact (Int.natCast_mul _ _).symm
  have hmi : min (s.x : Int) ((s.w : Int) - 1) = (mx : Int) := by omega
  have hcri : (p : Int) + (mx : Int) = (cr : Int) := by rw [← hcr, ← hp, ← hmx]; unfold curS; omega
  have hn240 : nn ≤ 240 := by rw [← hnn]; exact Nat.mul_le_mul hw2 hh2
  rw [hcr, hp, hpn, hnn] at hcur
  rw [hnn] at hcn
  obtain ⟨hc1, hc2, hc3⟩ := hcur
  have HCN := Lib.hid hcn
  have HP := Lib.hid hp
  have HMX := Lib.hid hmx
  have HCR := Lib.hid hcr
  have HPN := Lib.hid hpn
  have HNN := Lib.hid hnn
  have hwA : IntKind.i64.wrap ((s.w : Int) - 1) = (s.w : Int) - 1 := IntWalk.i64_in _ ⟨by omega, by omega⟩
  have hwB : IntKind.i64.wrap (p : Int) = (p : Int) := IntWalk.i64_in _ ⟨by omega, by omega⟩
  have hwC : IntKind.i64.wrap (cr : Int) = (cr : Int) := IntWalk.i64_in _ ⟨by omega, by omega⟩
  have hwD : IntKind.i64.wrap (pn : Int) = (pn : Int) := IntWalk.i64_in _ ⟨by omega, by omega⟩
  have hwE : IntKind.i64.wrap (nn : Int) = (nn : Int) := IntWalk.i64_in _ ⟨by omega, by omega⟩
  have hwF : IntKind.i64.wrap ((s.y : Int) + 1) = (s.y : Int) + 1 := IntWalk.i64_in _ ⟨by omega, by omega⟩
  have hwG : IntKind.i64.wrap ((cr : Int) + 1) = (cr : Int) + 1 := IntWalk.i64_in _ ⟨by omega, by omega⟩
  obtain ⟨ln, hln⟩ : ∃ l, xs.length = l := ⟨_, rfl⟩
  have HLN := Lib.hid hln
  have HCALL : ∀ (i : Nat) (d : Int) (W : World), i ≤ 7 → Sl intE 1 W aa xs → Calls Try.prog 84 #[.agg #[.int .i64 kd, .int .i64 77, .bool false, .slice aa ln ca, .string tx], .int .i64 i, .int .i64 d] W fun e w' => e = .returned (.int .i64 (argA xs i d)) ∧ Below W.heap.size W w' := fun i d W hi hW => by
    rw [← hln]
    exact l03ArgG_c kd 77 false tx xs aa ca i d W hW hi hx8
  rw [hln]
  clear h ok ha hna hxr hx8 hn hA0 hp hmx hcr hpn hnn hcn hln
  go_enter Try.func70, Try.ntmps70
  go_wp2_with fail
  refine (HCALL 0 1 _ (by omega) (HA.out.alloc _)).mono ?_
  rintro e v0 ⟨rfl, hb0⟩
  rw [HA0.out]
  have HB0 : Hid (Below w.heap.size w v0) := Lib.hid (((Below.refl w.heap.size w).alloc (Nat.le_refl _) _).trans (hb0.mono (by simp)))
  have hz0 := HB0.out.size
  have q_l : w.heap.size < v0.heap.size := by have := hb0.size; simp at this; omega
  have q_0 : v0.cell? ⟨w.heap.size, 0, none⟩ = some (.int .i64 kd) := kC hb0 (by simp) (by simp [go_sem])
  have q_1 : v0.cell? ⟨w.heap.size, 1, none⟩ = some (.int .i64 77) := kC hb0 (by simp) (by simp [go_sem])
  have q_2 : v0.cell? ⟨w.heap.size, 2, none⟩ = some (.bool false) := kC hb0 (by simp) (by simp [go_sem])
  have q_3 : v0.cell? ⟨w.heap.size, 3, none⟩ = some (.slice aa ln ca) := kC hb0 (by simp) (by simp [go_sem])
  have q_4 : v0.cell? ⟨w.heap.size, 4, none⟩ = some (.string tx) := kC hb0 (by simp) (by simp [go_sem])
  clear hb0
  have q_b : ¬ w.heap.size = b := by omega
  have HA_nb : ∀ k ∈ blkOf aa, ¬ k = b := fun k hk => (HNA.out k hk).1
  have Hv0 := Lib.hid (HS.out.below HB0.out)
  have HA2 := Lib.hid (HA.out.keep HB0.out)
  have HUv0 : Hid (Upd b 0 (0 + 12) (fun k => k = g ∨ k ∈ blkOf ah) w v0) := Lib.hid (Upd.refl'.below HB0.out HS.out.lt)
  have HA2_nb := HA_nb
  have k_0 := Hv0.out.e0
  have k_1 := Hv0.out.e1
  have k_2 := Hv0.out.e2
  have k_3 := Hv0.out.e3
  have k_4 := Hv0.out.e4
  have k_5 := Hv0.out.e5
  have k_6 := Hv0.out.e6
  have k_7 := Hv0.out.e7
  have k_8 := Hv0.out.e8
  have k_9 := Hv0.out.e9
  have k_10 := Hv0.out.e10
  have k_11 := Hv0.out.e11
  have k_f := Hv0.out.fz
  have k_l := Hv0.out.lt
  go_upto_region 4 with fail
  have hSc1 := And.intro k_0 (And.intro k_2 k_3)
  refine wp_region_G (fun w' => w'.cell? ⟨b, 0, none⟩ = some (.int .i64 (s.w : Int)) ∧ w'.cell? ⟨b, 2, none⟩ = some (.int .i64 (s.x : Int)) ∧ w'.cell? ⟨b, 3, none⟩ = some (.int .i64 (s.y : Int))) (fun i => false) (by kernel_rfl) hSc1 ?_
  refine tW ?_ 0 rfl ?_ ?_; rotate_left
  · intro w' hSw; go_simp; try rfl
  try simp only [Act.put,j1,j2,j3,j4,j5,j6]
  refine tW ?_ 1 rfl ?_ ?_; rotate_left
  · intro w' hSw; go_simp; try rfl
  try simp only [Act.put,j1,j2,j3,j4,j5,j6]
  refine tW ?_ 2 rfl ?_ ?_; rotate_left
  · intro w' hSw; go_simp; try rfl
  try simp only [Act.put,j1,j2,j3,j4,j5,j6]
  refine tL ?_ 3 rfl hSc1 ?_ ?_; rotate_left
  · intro w' hSw; obtain ⟨s0, s1, s2⟩ := hSw; go_simp; try rfl
  try simp only [Act.put,j1,j2,j3,j4,j5,j6]
  refine tW ?_ 4 rfl ?_ ?_; rotate_left
  · intro w' hSw; go_simp; try rfl
  try simp only [Act.put,j1,j2,j3,j4,j5,j6]
  refine tW ?_ 5 rfl ?_ ?_; rotate_left
  · intro w' hSw; go_simp; try rfl
  try simp only [Act.put,j1,j2,j3,j4,j5,j6]
  refine tW ?_ 6 rfl ?_ ?_; rotate_left
  · intro w' hSw; go_simp; try rfl
  try simp only [Act.put,j1,j2,j3,j4,j5,j6]
  refine tL ?_ 7 rfl hSc1 ?_ ?_; rotate_left
  · intro w' hSw; obtain ⟨s0, s1, s2⟩ := hSw; go_simp; try rfl
  try simp only [Act.put,j1,j2,j3,j4,j5,j6]
  refine tW ?_ 8 rfl ?_ ?_; rotate_left
  · intro w' hSw; go_simp; try rfl
  try simp only [Act.put,j1,j2,j3,j4,j5,j6]
  refine tW ?_ 9 rfl ?_ ?_; rotate_left
  · intro w' hSw; go_simp; try rfl
  try simp only [Act.put,j1,j2,j3,j4,j5,j6]
  refine tW ?_ 10 rfl ?_ ?_; rotate_left
  · intro w' hSw; go_simp; try rfl
  try simp only [Act.put,j1,j2,j3,j4,j5,j6]
  refine tW ?_ 11 rfl ?_ ?_; rotate_left
  · intro w' hSw; go_simp; try rfl
  try simp only [Act.put,j1,j2,j3,j4,j5,j6]
  refine tL ?_ 12 rfl hSc1 ?_ ?_; rotate_left
  · intro w' hSw; obtain ⟨s0, s1, s2⟩ := hSw; go_simp; try rfl
  try simp only [Act.put,j1,j2,j3,j4,j5,j6]
  refine tW ?_ 13 rfl ?_ ?_; rotate_left
  · intro w' hSw; go_simp; try rfl
  try simp only [Act.put,j1,j2,j3,j4,j5,j6]
  refine tW ?_ 14 rfl ?_ ?_; rotate_left
  · intro w' hSw; go_simp; try rfl
  try simp only [Act.put,j1,j2,j3,j4,j5,j6]
  refine tW ?_ 15 rfl ?_ ?_; rotate_left
  · intro w' hSw; go_simp; try rfl
  try simp only [Act.put,j1,j2,j3,j4,j5,j6]
  refine tL ?_ 16 rfl hSc1 ?_ ?_; rotate_left
  · intro w' hSw; obtain ⟨s0, s1, s2⟩ := hSw; go_simp; try rfl
  try simp only [Act.put,j1,j2,j3,j4,j5,j6]
  refine tW ?_ 17 rfl ?_ ?_; rotate_left
  · intro w' hSw; go_simp; try rfl
  try simp only [Act.put,j1,j2,j3,j4,j5,j6]
  refine tW ?_ 18 rfl ?_ ?_; rotate_left
  · intro w' hSw; go_simp; try rfl
  try simp only [Act.put,j1,j2,j3,j4,j5,j6]
  refine tW ?_ 19 rfl ?_ ?_; rotate_left
  · intro w' hSw; go_simp; try rfl
  try simp only [Act.put,j1,j2,j3,j4,j5,j6]
  refine tW ?_ 20 rfl ?_ ?_; rotate_left
  · intro w' hSw; go_simp; try rfl
  try simp only [Act.put,j1,j2,j3,j4,j5,j6]
  refine wpAnyG_done (by kernel_rfl) ?_ _
  obtain ⟨v1, hv1⟩ : ∃ x, v0.drew = x := ⟨_, rfl⟩
  have HBv1 : Hid (Below v0.heap.size v0 v1) := Lib.hid (by rw [← hv1]; exact (Below.refl _ _).drew)
  rw [hv1]
  have hzv1 := HBv1.out.size
  have Hv1 := Lib.hid (Hv0.out.below HBv1.out)
  have HUv1 : Hid (Upd b 0 (0 + 12) (fun k => k = g ∨ k ∈ blkOf ah) w v1) := Lib.hid (HUv0.out.below HBv1.out Hv0.out.lt)
  have qn_0 := kC HBv1.out q_l q_0
  have qn_1 := kC HBv1.out q_l q_1
  have qn_2 := kC HBv1.out q_l q_2
  have qn_3 := kC HBv1.out q_l q_3
  have qn_4 := kC HBv1.out q_l q_4
  have qn_l := Nat.lt_of_lt_of_le q_l HBv1.out.size
  clear q_0 q_1 q_2 q_3 q_4 q_l
  have HA2n := Lib.hid (HA2.out.keep HBv1.out)
  clear k_f k_l k_0 k_1 k_2 k_3 k_4 k_5 k_6 k_7 k_8 k_9 k_10 k_11 hv1 hSc1
  have k_0 := Hv1.out.e0
  have k_1 := Hv1.out.e1
  have k_2 := Hv1.out.e2
  have k_3 := Hv1.out.e3
  have k_4 := Hv1.out.e4
  have k_5 := Hv1.out.e5
  have k_6 := Hv1.out.e6
  have k_7 := Hv1.out.e7
  have k_8 := Hv1.out.e8
  have k_9 := Hv1.out.e9
  have k_10 := Hv1.out.e10
  have k_11 := Hv1.out.e11
  have k_f := Hv1.out.fz
  have k_l := Hv1.out.lt
  by_cases hin : s.top ≤ s.y ∧ s.y ≤ s.bot
  · have HI : Hid (inB (s.y : Int) (s.top : Int) (s.bot : Int) = true) := Lib.hid (by simp only [inB, Bool.and_eq_true, decide_eq_true_eq]; omega)
    have htb := HOK.out.tb
    have hbh := HOK.out.bh
    obtain ⟨m, hmm⟩ : ∃ m, min n (s.bot - s.y + 1) = m := ⟨_, rfl⟩
    have hmi2 : min (n : Int) ((s.bot : Int) - (s.y : Int) + 1) = (m : Int) := by omega
    have hm10 : m ≤ 10 := by omega
    have HM := Lib.hid hmm
    have hwI : IntKind.i64.wrap ((s.bot : Int) - (s.y : Int)) = (s.bot : Int) - (s.y : Int) := IntWalk.i64_in _ ⟨by omega, by omega⟩
    have hwJ : IntKind.i64.wrap ((s.bot : Int) - (s.y : Int) + 1) = (s.bot : Int) - (s.y : Int) + 1 := IntWalk.i64_in _ ⟨by omega, by omega⟩
    have hwK : IntKind.i64.wrap (-(m : Int)) = -(m : Int) := IntWalk.i64_in _ ⟨by omega, by omega⟩
    have HIN := Lib.hid hin
    clear hin hmm
    go_upto_region 36 with fail
    have hSc2 := And.intro k_3 (And.intro k_5 k_6)
    refine wp_region_G (fun w' => w'.cell? ⟨b, 3, none⟩ = some (.int .i64 (s.y : Int)) ∧ w'.cell? ⟨b, 5, none⟩ = some (.int .i64 (s.top : Int)) ∧ w'.cell? ⟨b, 6, none⟩ = some (.int .i64 (s.bot : Int))) (fun i => false) (by kernel_rfl) hSc2 ?_
    refine tW ?_ 0 rfl ?_ ?_; rotate_left
    · intro w' hSw; go_simp; try rfl
    try simp only [Act.put,j1,j2,j3,j4,j5,j6]
    refine tW ?_ 1 rfl ?_ ?_; rotate_left
    · intro w' hSw; go_simp; try rfl
    try simp only [Act.put,j1,j2,j3,j4,j5,j6]
    refine tW ?_ 2 rfl ?_ ?_; rotate_left
    · intro w' hSw; go_simp; try rfl
    try simp only [Act.put,j1,j2,j3,j4,j5,j6]
    refine tL ?_ 3 rfl hSc2 ?_ ?_; rotate_left
    · intro w' hSw; obtain ⟨s0, s1, s2⟩ := hSw; go_simp; try rfl
    try simp only [Act.put,j1,j2,j3,j4,j5,j6]
    refine tW ?_ 4 rfl ?_ ?_; rotate_left
    · intro w' hSw; go_simp; try rfl
    try simp only [Act.put,j1,j2,j3,j4,j5,j6]
    refine tW ?_ 5 rfl ?_ ?_; rotate_left
    · intro w' hSw; go_simp; try rfl
    try simp only [Act.put,j1,j2,j3,j4,j5,j6]
    refine tW ?_ 6 rfl ?_ ?_; rotate_left
    · intro w' hSw; go_simp; try rfl
    try simp only [Act.put,j1,j2,j3,j4,j5,j6]
    refine tL ?_ 7 rfl hSc2 ?_ ?_; rotate_left
    · intro w' hSw; obtain ⟨s0, s1, s2⟩ := hSw; go_simp; try rfl
    try simp only [Act.put,j1,j2,j3,j4,j5,j6]
    refine tW ?_ 8 rfl ?_ ?_; rotate_left
    · intro w' hSw; go_simp; try rfl
    try simp only [Act.put,j1,j2,j3,j4,j5,j6]
    refine tW ?_ 9 rfl ?_ ?_; rotate_left
    · intro w' hSw; go_simp; try rfl
    try simp only [Act.put,j1,j2,j3,j4,j5,j6]
    refine tW ?_ 10 rfl ?_ ?_; rotate_left
    · intro w' hSw; go_simp; try rfl
    try simp only [Act.put,j1,j2,j3,j4,j5,j6]
    refine tL ?_ 11 rfl hSc2 ?_ ?_; rotate_left
    · intro w' hSw; obtain ⟨s0, s1, s2⟩ := hSw; go_simp; try rfl
    try simp only [Act.put,j1,j2,j3,j4,j5,j6]
    refine wpAnyG_one (i := 12) (by kernel_rfl) rfl hSc2 (fun K' hK => ?_)
    simp only [j1,j2,j3]
    go_simp
    refine (l01In_c _ _ _ _).mono ?_
    rw [HI.out]
    rintro e x1 ⟨rfl, rfl⟩
    refine hK.out _ _ (Or.inr hSc2) ?_
    clear hK K'
    try simp only [Act.put,j1,j2,j3,j4,j5,j6]
    refine wpAnyG_done (by kernel_rfl) ?_ _
    obtain ⟨v2, hv2⟩ : ∃ x, v1.drew = x := ⟨_, rfl⟩
    have HBv2 : Hid (Below v1.heap.size v1 v2) := Lib.hid (by rw [← hv2]; exact (Below.refl _ _).drew)
    rw [hv2]
    have hzv2 := HBv2.out.size
    have Hv2 := Lib.hid (Hv1.out.below HBv2.out)
    have HUv2 : Hid (Upd b 0 (0 + 12) (fun k => k = g ∨ k ∈ blkOf ah) w v2) := Lib.hid (HUv1.out.below HBv2.out Hv1.out.lt)
    have qnn_0 := kC HBv2.out qn_l qn_0
    have qnn_1 := kC HBv2.out qn_l qn_1
    have qnn_2 := kC HBv2.out qn_l qn_2
    have qnn_3 := kC HBv2.out qn_l qn_3
    have qnn_4 := kC HBv2.out qn_l qn_4
    have qnn_l := Nat.lt_of_lt_of_le qn_l HBv2.out.size
    clear qn_0 qn_1 qn_2 qn_3 qn_4 qn_l
    have HA2nn := Lib.hid (HA2n.out.keep HBv2.out)
    clear k_f k_l k_0 k_1 k_2 k_3 k_4 k_5 k_6 k_7 k_8 k_9 k_10 k_11 hv2 hSc2
    have k_0 := Hv2.out.e0
    have k_1 := Hv2.out.e1
    have k_2 := Hv2.out.e2
    have k_3 := Hv2.out.e3
    have k_4 := Hv2.out.e4
    have k_5 := Hv2.out.e5
    have k_6 := Hv2.out.e6
    have k_7 := Hv2.out.e7
    have k_8 := Hv2.out.e8
    have k_9 := Hv2.out.e9
    have k_10 := Hv2.out.e10
    have k_11 := Hv2.out.e11
    have k_f := Hv2.out.fz
    have k_l := Hv2.out.lt
    go_upto_region 37 with fail
    have hSc3 := And.intro k_3 k_6
    refine wp_region_G (fun w' => w'.cell? ⟨b, 3, none⟩ = some (.int .i64 (s.y : Int)) ∧ w'.cell? ⟨b, 6, none⟩ = some (.int .i64 (s.bot : Int))) (fun i => false) (by kernel_rfl) hSc3 ?_
    refine tW ?_ 0 rfl ?_ ?_; rotate_left
    · intro w' hSw; go_simp; try rfl
    try simp only [Act.put,j1,j2,j3,j4,j5,j6]
    refine tW ?_ 1 rfl ?_ ?_; rotate_left
    · intro w' hSw; go_simp; try rfl
    try simp only [Act.put,j1,j2,j3,j4,j5,j6]
    refine tW ?_ 2 rfl ?_ ?_; rotate_left
    · intro w' hSw; go_simp; try rfl
    try simp only [Act.put,j1,j2,j3,j4,j5,j6]
    refine tW ?_ 3 rfl ?_ ?_; rotate_left
    · intro w' hSw; go_simp; try rfl
    try simp only [Act.put,j1,j2,j3,j4,j5,j6]
    refine tL ?_ 4 rfl hSc3 ?_ ?_; rotate_left
    · intro w' hSw; obtain ⟨s0, s1⟩ := hSw; go_simp; try rfl
    try simp only [Act.put,j1,j2,j3,j4,j5,j6]
    refine tW ?_ 5 rfl ?_ ?_; rotate_left
    · intro w' hSw; go_simp; try rfl
    try simp only [Act.put,j1,j2,j3,j4,j5,j6]
    refine tW ?_ 6 rfl ?_ ?_; rotate_left
    · intro w' hSw; go_simp; try rfl
    try simp only [Act.put,j1,j2,j3,j4,j5,j6]
    refine tW ?_ 7 rfl ?_ ?_; rotate_left
    · intro w' hSw; go_simp; try rfl
    try simp only [Act.put,j1,j2,j3,j4,j5,j6]
    refine tL ?_ 8 rfl hSc3 ?_ ?_; rotate_left
    · intro w' hSw; obtain ⟨s0, s1⟩ := hSw; go_simp; try rfl
    try simp only [Act.put,j1,j2,j3,j4,j5,j6]
    refine tW ?_ 9 rfl ?_ ?_; rotate_left
    · intro w' hSw; go_simp; try rfl
    try simp only [Act.put,j1,j2,j3,j4,j5,j6]
    refine tW ?_ 10 rfl ?_ ?_; rotate_left
    · intro w' hSw; go_simp; try rfl
    try simp only [Act.put,j1,j2,j3,j4,j5,j6]
    refine tW ?_ 11 rfl ?_ ?_; rotate_left
    · intro w' hSw; go_simp; try rfl
    try simp only [Act.put,j1,j2,j3,j4,j5,j6]
    refine tW ?_ 12 rfl ?_ ?_; rotate_left
    · intro w' hSw; go_simp; try rfl
    try simp only [Act.put,j1,j2,j3,j4,j5,j6]
    refine wpAnyG_done (by kernel_rfl) ?_ _
    obtain ⟨v3, hv3⟩ : ∃ x, v2.drew = x := ⟨_, rfl⟩
    have HBv3 : Hid (Below v2.heap.size v2 v3) := Lib.hid (by rw [← hv3]; exact (Below.refl _ _).drew)
    rw [hv3]
    have hzv3 := HBv3.out.size
    have Hv3 := Lib.hid (Hv2.out.below HBv3.out)
    have HUv3 : Hid (Upd b 0 (0 + 12) (fun k => k = g ∨ k ∈ blkOf ah) w v3) := Lib.hid (HUv2.out.below HBv3.out Hv2.out.lt)
    have qnnn_0 := kC HBv3.out qnn_l qnn_0
    have qnnn_1 := kC HBv3.out qnn_l qnn_1
    have qnnn_2 := kC HBv3.out qnn_l qnn_2
    have qnnn_3 := kC HBv3.out qnn_l qnn_3
    have qnnn_4 := kC HBv3.out qnn_l qnn_4
    have qnnn_l := Nat.lt_of_lt_of_le qnn_l HBv3.out.size
    clear qnn_0 qnn_1 qnn_2 qnn_3 qnn_4 qnn_l
    have HA2nnn := Lib.hid (HA2nn.out.keep HBv3.out)
    clear k_f k_l k_0 k_1 k_2 k_3 k_4 k_5 k_6 k_7 k_8 k_9 k_10 k_11 hv3 hSc3
    have k_0 := Hv3.out.e0
    have k_1 := Hv3.out.e1
    have k_2 := Hv3.out.e2
    have k_3 := Hv3.out.e3
    have k_4 := Hv3.out.e4
    have k_5 := Hv3.out.e5
    have k_6 := Hv3.out.e6
    have k_7 := Hv3.out.e7
    have k_8 := Hv3.out.e8
    have k_9 := Hv3.out.e9
    have k_10 := Hv3.out.e10
    have k_11 := Hv3.out.e11
    have k_f := Hv3.out.fz
    have k_l := Hv3.out.lt
    go_upto_region 40 with fail
    have hSc4 := And.intro k_3 k_6
    refine wp_region_G (fun w' => w'.cell? ⟨b, 3, none⟩ = some (.int .i64 (s.y : Int)) ∧ w'.cell? ⟨b, 6, none⟩ = some (.int .i64 (s.bot : Int))) (fun i => false) (by kernel_rfl) hSc4 ?_
    refine tW ?_ 0 rfl ?_ ?_; rotate_left
    · intro w' hSw; go_simp; try rfl
    try simp only [Act.put,j1,j2,j3,j4,j5,j6]
    refine tW ?_ 1 rfl ?_ ?_; rotate_left
    · intro w' hSw; go_simp; try rfl
    try simp only [Act.put,j1,j2,j3,j4,j5,j6]
    refine tW ?_ 2 rfl ?_ ?_; rotate_left
    · intro w' hSw; go_simp; try rfl
    try simp only [Act.put,j1,j2,j3,j4,j5,j6]
    refine tW ?_ 3 rfl ?_ ?_; rotate_left
    · intro w' hSw; go_simp; try rfl
    try simp only [Act.put,j1,j2,j3,j4,j5,j6]
    refine tL ?_ 4 rfl hSc4 ?_ ?_; rotate_left
    · intro w' hSw; obtain ⟨s0, s1⟩ := hSw; go_simp; try rfl
    try simp only [Act.put,j1,j2,j3,j4,j5,j6]
    refine tW ?_ 5 rfl ?_ ?_; rotate_left
    · intro w' hSw; go_simp; try rfl
    try simp only [Act.put,j1,j2,j3,j4,j5,j6]
    refine tW ?_ 6 rfl ?_ ?_; rotate_left
    · intro w' hSw; go_simp; try rfl
    try simp only [Act.put,j1,j2,j3,j4,j5,j6]
    refine tW ?_ 7 rfl ?_ ?_; rotate_left
    · intro w' hSw; go_simp; try rfl
    try simp only [Act.put,j1,j2,j3,j4,j5,j6]
    refine tL ?_ 8 rfl hSc4 ?_ ?_; rotate_left
    · intro w' hSw; obtain ⟨s0, s1⟩ := hSw; go_simp; try rfl
    try simp only [Act.put,j1,j2,j3,j4,j5,j6]
    refine tW ?_ 9 rfl ?_ ?_; rotate_left
    · intro w' hSw; go_simp; try rfl
    try simp only [Act.put,j1,j2,j3,j4,j5,j6]
    refine wpAnyG_one (i := 10) (by kernel_rfl) rfl hSc4 (fun K' hK => ?_)
    simp only [j1,j2,j3]
    go_simp
    refine (withinU_c lo b s g cc ah dh _ s.y s.bot m Hv3.out.drew HOK.out HIN.out.2 HOK.out.bh hm10 (by show lo ≤ v3.heap.size; omega)).mono ?_
    rintro e x1 ⟨rfl, g1, cc1, ah1, dh1, ha, hu, hg, hh⟩
    have e1 := scU_same false s.y s.bot s m
    have HX := Lib.hid ha
    have HR : Hid (Upd b 0 (0 + 12) (fun k => k = g ∨ k ∈ blkOf ah) w x1 ∧ (g1 = g ∨ w.heap.size ≤ g1) ∧ ∀ i ∈ blkOf ah1, i ∈ blkOf ah ∨ w.heap.size ≤ i) := Lib.hid (by
      obtain ⟨g2, c2, a2, d2, _⟩ : ∃ g2 c2 a2 d2, ScrAt lo b 0 (scU false s.y s.bot m s) g2 c2 a2 d2 x1 := ⟨_, _, _, _, ha⟩
      refine ⟨HUv3.out.drew.transN hu (fun i hi => .inl hi), hg.imp id (fun h => by have : v3.heap.size ≤ g1 := h; omega), fun i hi => (hh i hi).imp id (fun h => by have : v3.heap.size ≤ i := h; omega)⟩)
    have hSx : x1.cell? ⟨b, 3, none⟩ = some (.int .i64 (s.y : Int)) ∧ x1.cell? ⟨b, 6, none⟩ = some (.int .i64 (s.bot : Int)) := ⟨by have := ha.c3; rw [e1.2.2.2.1] at this; exact this, by have := ha.c6; rw [e1.2.2.2.2.2.2.1] at this; exact this⟩
    have z_2 : x1.cell? ⟨b, 2, none⟩ = some (.int .i64 s.x) := by have := ha.c2; rw [e1.2.2.1] at this; exact this
    have z_f := ha.fz
    have z_l := ha.lt
    clear ha hu hg hh
    refine hK.out _ _ (Or.inr hSx) ?_
    clear hK K'
    try simp only [Act.put,j1,j2,j3,j4,j5,j6]
    refine wpAnyG_done (by kernel_rfl) ?_ _
    go_wp2_with fail
    first | refine bodyPost_end (v := .tuple #[]) (by simp [results, Try.results70]) rfl ?_ | refine bodyPost_ret (v := .tuple #[]) (by simp [results, Try.results70]) rfl ?_
    refine ⟨rfl, ?_⟩
    unfold csiS
    rw [if_neg (by decide), if_neg (by decide), if_neg (by decide), if_neg (by decide), if_neg (by decide), if_neg (by decide), if_neg (by decide), if_neg (by decide), if_pos (by decide)]
    rw [if_pos HIN.out, HN.out, HM.out]
    exact ScrR.trans HX.out HR.out.1 HR.out.2.1 HR.out.2.2 (.mk (HX.out.setv2 0 rfl) (Upd.refl'.set2 _))
  · have HI : Hid (inB (s.y : Int) (s.top : Int) (s.bot : Int) = false) := Lib.hid (by simp only [inB, Bool.and_eq_false_iff, decide_eq_false_iff_not]; omega)
    go_upto_region 36 with fail
    have hSc2 := And.intro k_3 (And.intro k_5 k_6)
    refine wp_region_G (fun w' => w'.cell? ⟨b, 3, none⟩ = some (.int .i64 (s.y : Int)) ∧ w'.cell? ⟨b, 5, none⟩ = some (.int .i64 (s.top : Int)) ∧ w'.cell? ⟨b, 6, none⟩ = some (.int .i64 (s.bot : Int))) (fun i => false) (by kernel_rfl) hSc2 ?_
    refine tW ?_ 0 rfl ?_ ?_; rotate_left
    · intro w' hSw; go_simp; try rfl
    try simp only [Act.put,j1,j2,j3,j4,j5,j6]
    refine tW ?_ 1 rfl ?_ ?_; rotate_left
    · intro w' hSw; go_simp; try rfl
    try simp only [Act.put,j1,j2,j3,j4,j5,j6]
    refine tW ?_ 2 rfl ?_ ?_; rotate_left
    · intro w' hSw; go_simp; try rfl
    try simp only [Act.put,j1,j2,j3,j4,j5,j6]
    refine tL ?_ 3 rfl hSc2 ?_ ?_; rotate_left
    · intro w' hSw; obtain ⟨s0, s1, s2⟩ := hSw; go_simp; try rfl
    try simp only [Act.put,j1,j2,j3,j4,j5,j6]
    refine tW ?_ 4 rfl ?_ ?_; rotate_left
    · intro w' hSw; go_simp; try rfl
    try simp only [Act.put,j1,j2,j3,j4,j5,j6]
    refine tW ?_ 5 rfl ?_ ?_; rotate_left
    · intro w' hSw; go_simp; try rfl
    try simp only [Act.put,j1,j2,j3,j4,j5,j6]
    refine tW ?_ 6 rfl ?_ ?_; rotate_left
    · intro w' hSw; go_simp; try rfl
    try simp only [Act.put,j1,j2,j3,j4,j5,j6]
    refine tL ?_ 7 rfl hSc2 ?_ ?_; rotate_left
    · intro w' hSw; obtain ⟨s0, s1, s2⟩ := hSw; go_simp; try rfl
    try simp only [Act.put,j1,j2,j3,j4,j5,j6]
    refine tW ?_ 8 rfl ?_ ?_; rotate_left
    · intro w' hSw; go_simp; try rfl
    try simp only [Act.put,j1,j2,j3,j4,j5,j6]
    refine tW ?_ 9 rfl ?_ ?_; rotate_left
    · intro w' hSw; go_simp; try rfl
    try simp only [Act.put,j1,j2,j3,j4,j5,j6]
    refine tW ?_ 10 rfl ?_ ?_; rotate_left
    · intro w' hSw; go_simp; try rfl
    try simp only [Act.put,j1,j2,j3,j4,j5,j6]
    refine tL ?_ 11 rfl hSc2 ?_ ?_; rotate_left
    · intro w' hSw; obtain ⟨s0, s1, s2⟩ := hSw; go_simp; try rfl
    try simp only [Act.put,j1,j2,j3,j4,j5,j6]
    refine wpAnyG_one (i := 12) (by kernel_rfl) rfl hSc2 (fun K' hK => ?_)
    simp only [j1,j2,j3]
    go_simp
    refine (l01In_c _ _ _ _).mono ?_
    rw [HI.out]
    rintro e x1 ⟨rfl, rfl⟩
    refine hK.out _ _ (Or.inr hSc2) ?_
    clear hK K'
    try simp only [Act.put,j1,j2,j3,j4,j5,j6]
    refine wpAnyG_done (by kernel_rfl) ?_ _
    obtain ⟨v2, hv2⟩ : ∃ x, v1.drew = x := ⟨_, rfl⟩
    have HBv2 : Hid (Below v1.heap.size v1 v2) := Lib.hid (by rw [← hv2]; exact (Below.refl _ _).drew)
    rw [hv2]
    have hzv2 := HBv2.out.size
    have Hv2 := Lib.hid (Hv1.out.below HBv2.out)
    have HUv2 : Hid (Upd b 0 (0 + 12) (fun k => k = g ∨ k ∈ blkOf ah) w v2) := Lib.hid (HUv1.out.below HBv2.out Hv1.out.lt)
    have qnn_0 := kC HBv2.out qn_l qn_0
    have qnn_1 := kC HBv2.out qn_l qn_1
    have qnn_2 := kC HBv2.out qn_l qn_2
    have qnn_3 := kC HBv2.out qn_l qn_3
    have qnn_4 := kC HBv2.out qn_l qn_4
    have qnn_l := Nat.lt_of_lt_of_le qn_l HBv2.out.size
    clear qn_0 qn_1 qn_2 qn_3 qn_4 qn_l
    have HA2nn := Lib.hid (HA2n.out.keep HBv2.out)
    clear k_f k_l k_0 k_1 k_2 k_3 k_4 k_5 k_6 k_7 k_8 k_9 k_10 k_11 hv2 hSc2
    have k_0 := Hv2.out.e0
    have k_1 := Hv2.out.e1
    have k_2 := Hv2.out.e2
    have k_3 := Hv2.out.e3
    have k_4 := Hv2.out.e4
    have k_5 := Hv2.out.e5
    have k_6 := Hv2.out.e6
    have k_7 := Hv2.out.e7
    have k_8 := Hv2.out.e8
    have k_9 := Hv2.out.e9
    have k_10 := Hv2.out.e10
    have k_11 := Hv2.out.e11
    have k_f := Hv2.out.fz
    have k_l := Hv2.out.lt
    go_wp2_with fail
    first | refine bodyPost_end (v := .tuple #[]) (by simp [results, Try.results70]) rfl ?_ | refine bodyPost_ret (v := .tuple #[]) (by simp [results, Try.results70]) rfl ?_
    refine ⟨rfl, ?_⟩
    unfold csiS
    rw [if_neg (by decide), if_neg (by decide), if_neg (by decide), if_neg (by decide), if_neg (by decide), if_neg (by decide), if_neg (by decide), if_neg (by decide), if_pos (by decide)]
    rw [if_neg hin]
    exact .mk Hv2.out HUv2.out
theorem csi83_c (lo b : Nat) (s : Scr) (g cc : Nat) (ah : Option Addr) (dh : Nat) (w : World) (kd : Int) (xs : List Int) (aa : Option Addr) (ca : Nat) (tx : ByteArray) (h : ScrAt lo b 0 s g cc ah dh w) (ok : ScrOK s) (hlo : lo ≤ w.heap.size) (ha : Sl intE 1 w aa xs) (hna : ∀ k ∈ blkOf aa, k ≠ b ∧ k ≠ g ∧ k ∉ blkOf ah) (hx8 : xs.length ≤ 8) (hxr : ∀ x ∈ xs, -1 ≤ x ∧ x ≤ 9999) :
    Calls Try.prog 70 #[.pointer (some ⟨b, 0, none⟩), .agg #[.int .i64 kd, .int .i64 83, .bool false, .slice aa xs.length ca, .string tx]] w fun e w' => e = .returned (.tuple #[]) ∧ ScrR lo b 0 (csiS s 83 xs) g ah w w' := by
  have HS := Lib.hid h
  have HOK := Lib.hid ok
  have HA := Lib.hid ha
  have HNA := Lib.hid hna
  have HXR := Lib.hid hxr
  have HX8 := Lib.hid hx8
  have hw1 := ok.w1
  have hw2 := ok.w2
  have hh1 := ok.h1
  have hh2 := ok.h2
  have hx := ok.hx
  have hy := ok.hy
  have hcur := ok.cur
  have hcn := ok.cn
  have hlt := h.lt
  obtain ⟨n, hn⟩ : ∃ n, arg1 xs 0 = n := ⟨_, rfl⟩
  obtain ⟨A0, hA0⟩ : ∃ a, argA xs 0 1 = a := ⟨_, rfl⟩
  have hAb : -1 ≤ A0 ∧ A0 ≤ 9999 := by rw [← hA0]; exact argA_bd HXR.out (by omega) (by omega)
  have hm : max 1 A0 = (n : Int) := by rw [← hn, ← hA0]; unfold arg1; omega
  have hn1 : 1 ≤ n := by omega
  have hn2 : n ≤ 9999 := by omega
  have HN := Lib.hid hn
  have HA0 := Lib.hid hA0
  obtain ⟨p, hp⟩ : ∃ p, s.y * s.w = p := ⟨_, rfl⟩
  obtain ⟨mx, hmx⟩ : ∃ m, min s.x (s.w - 1) = m := ⟨_, rfl⟩
  obtain ⟨cr, hcr⟩ : ∃ c, curS s = c := ⟨_, rfl⟩
  obtain ⟨pn, hpn⟩ : ∃ q, (s.y + 1) * s.w = q := ⟨_, rfl⟩
  obtain ⟨nn, hnn⟩ : ∃ q, s.w * s.h = q := ⟨_, rfl⟩
  have hpi : (s.y : Int) * (s.w : Int) = (p : Int) := by rw [← hp]; exact (Int.natCast_mul _ _).symm
  have hpni : ((s.y : Int) + 1) * (s.w : Int) = (pn : Int) := by rw [← hpn]; exact (Int.natCast_mul (s.y + 1) s.w).symm
  have hnni : (s.w : Int) * (s.h : Int) = (nn : Int) := by rw [← hnn]; exact (Int.natCast_mul _ _).symm
  have hmi : min (s.x : Int) ((s.w : Int) - 1) = (mx : Int) := by omega
  have hcri : (p : Int) + (mx : Int) = (cr : Int) := by rw [← hcr, ← hp, ← hmx]; unfold curS; omega
  have hn240 : nn ≤ 240 := by rw [← hnn]; exact Nat.mul_le_mul hw2 hh2
  rw [hcr, hp, hpn, hnn] at hcur
  rw [hnn] at hcn
  obtain ⟨hc1, hc2, hc3⟩ := hcur
  have HCN := Lib.hid hcn
  have HP := Lib.hid hp
  have HMX := Lib.hid hmx
  have HCR := Lib.hid hcr
  have HPN := Lib.hid hpn
  have HNN := Lib.hid hnn
  have hwA : IntKind.i64.wrap ((s.w : Int) - 1) = (s.w : Int) - 1 := IntWalk.i64_in _ ⟨by omega, by omega⟩
  have hwB : IntKind.i64.wrap (p : Int) = (p : Int) := IntWalk.i64_in _ ⟨by omega, by omega⟩
  have hwC : IntKind.i64.wrap (cr : Int) = (cr : Int) := IntWalk.i64_in _ ⟨by omega, by omega⟩
  have hwD : IntKind.i64.wrap (pn : Int) = (pn : Int) := IntWalk.i64_in _ ⟨by omega, by omega⟩
  have hwE : IntKind.i64.wrap (nn : Int) = (nn : Int) := IntWalk.i64_in _ ⟨by omega, by omega⟩
  have hwF : IntKind.i64.wrap ((s.y : Int) + 1) = (s.y : Int) + 1 := IntWalk.i64_in _ ⟨by omega, by omega⟩
  have hwG : IntKind.i64.wrap ((cr : Int) + 1) = (cr : Int) + 1 := IntWalk.i64_in _ ⟨by omega, by omega⟩
  obtain ⟨ln, hln⟩ : ∃ l, xs.length = l := ⟨_, rfl⟩
  have HLN := Lib.hid hln
  have HCALL : ∀ (i : Nat) (d : Int) (W : World), i ≤ 7 → Sl intE 1 W aa xs → Calls Try.prog 84 #[.agg #[.int .i64 kd, .int .i64 83, .bool false, .slice aa ln ca, .string tx], .int .i64 i, .int .i64 d] W fun e w' => e = .returned (.int .i64 (argA xs i d)) ∧ Below W.heap.size W w' := fun i d W hi hW => by
    rw [← hln]
    exact l03ArgG_c kd 83 false tx xs aa ca i d W hW hi hx8
  rw [hln]
  clear h ok ha hna hxr hx8 hn hA0 hp hmx hcr hpn hnn hcn hln
  go_enter Try.func70, Try.ntmps70
  go_wp2_with fail
  refine (HCALL 0 1 _ (by omega) (HA.out.alloc _)).mono ?_
  rintro e v0 ⟨rfl, hb0⟩
  rw [HA0.out]
  have HB0 : Hid (Below w.heap.size w v0) := Lib.hid (((Below.refl w.heap.size w).alloc (Nat.le_refl _) _).trans (hb0.mono (by simp)))
  have hz0 := HB0.out.size
  have q_l : w.heap.size < v0.heap.size := by have := hb0.size; simp at this; omega
  have q_0 : v0.cell? ⟨w.heap.size, 0, none⟩ = some (.int .i64 kd) := kC hb0 (by simp) (by simp [go_sem])
  have q_1 : v0.cell? ⟨w.heap.size, 1, none⟩ = some (.int .i64 83) := kC hb0 (by simp) (by simp [go_sem])
  have q_2 : v0.cell? ⟨w.heap.size, 2, none⟩ = some (.bool false) := kC hb0 (by simp) (by simp [go_sem])
  have q_3 : v0.cell? ⟨w.heap.size, 3, none⟩ = some (.slice aa ln ca) := kC hb0 (by simp) (by simp [go_sem])
  have q_4 : v0.cell? ⟨w.heap.size, 4, none⟩ = some (.string tx) := kC hb0 (by simp) (by simp [go_sem])
  clear hb0
  have q_b : ¬ w.heap.size = b := by omega
  have HA_nb : ∀ k ∈ blkOf aa, ¬ k = b := fun k hk => (HNA.out k hk).1
  have Hv0 := Lib.hid (HS.out.below HB0.out)
  have HA2 := Lib.hid (HA.out.keep HB0.out)
  have HUv0 : Hid (Upd b 0 (0 + 12) (fun k => k = g ∨ k ∈ blkOf ah) w v0) := Lib.hid (Upd.refl'.below HB0.out HS.out.lt)
  have HA2_nb := HA_nb
  have k_0 := Hv0.out.e0
  have k_1 := Hv0.out.e1
  have k_2 := Hv0.out.e2
  have k_3 := Hv0.out.e3
  have k_4 := Hv0.out.e4
  have k_5 := Hv0.out.e5
  have k_6 := Hv0.out.e6
  have k_7 := Hv0.out.e7
  have k_8 := Hv0.out.e8
  have k_9 := Hv0.out.e9
  have k_10 := Hv0.out.e10
  have k_11 := Hv0.out.e11
  have k_f := Hv0.out.fz
  have k_l := Hv0.out.lt
  go_upto_region 4 with fail
  have hSc1 := And.intro k_0 (And.intro k_2 k_3)
  refine wp_region_G (fun w' => w'.cell? ⟨b, 0, none⟩ = some (.int .i64 (s.w : Int)) ∧ w'.cell? ⟨b, 2, none⟩ = some (.int .i64 (s.x : Int)) ∧ w'.cell? ⟨b, 3, none⟩ = some (.int .i64 (s.y : Int))) (fun i => false) (by kernel_rfl) hSc1 ?_
  refine tW ?_ 0 rfl ?_ ?_; rotate_left
  · intro w' hSw; go_simp; try rfl
  try simp only [Act.put,j1,j2,j3,j4,j5,j6]
  refine tW ?_ 1 rfl ?_ ?_; rotate_left
  · intro w' hSw; go_simp; try rfl
  try simp only [Act.put,j1,j2,j3,j4,j5,j6]
  refine tW ?_ 2 rfl ?_ ?_; rotate_left
  · intro w' hSw; go_simp; try rfl
  try simp only [Act.put,j1,j2,j3,j4,j5,j6]
  refine tL ?_ 3 rfl hSc1 ?_ ?_; rotate_left
  · intro w' hSw; obtain ⟨s0, s1, s2⟩ := hSw; go_simp; try rfl
  try simp only [Act.put,j1,j2,j3,j4,j5,j6]
  refine tW ?_ 4 rfl ?_ ?_; rotate_left
  · intro w' hSw; go_simp; try rfl
  try simp only [Act.put,j1,j2,j3,j4,j5,j6]
  refine tW ?_ 5 rfl ?_ ?_; rotate_left
  · intro w' hSw; go_simp; try rfl
  try simp only [Act.put,j1,j2,j3,j4,j5,j6]
  refine tW ?_ 6 rfl ?_ ?_; rotate_left
  · intro w' hSw; go_simp; try rfl
  try simp only [Act.put,j1,j2,j3,j4,j5,j6]
  refine tL ?_ 7 rfl hSc1 ?_ ?_; rotate_left
  · intro w' hSw; obtain ⟨s0, s1, s2⟩ := hSw; go_simp; try rfl
  try simp only [Act.put,j1,j2,j3,j4,j5,j6]
  refine tW ?_ 8 rfl ?_ ?_; rotate_left
  · intro w' hSw; go_simp; try rfl
  try simp only [Act.put,j1,j2,j3,j4,j5,j6]
  refine tW ?_ 9 rfl ?_ ?_; rotate_left
  · intro w' hSw; go_simp; try rfl
  try simp only [Act.put,j1,j2,j3,j4,j5,j6]
  refine tW ?_ 10 rfl ?_ ?_; rotate_left
  · intro w' hSw; go_simp; try rfl
  try simp only [Act.put,j1,j2,j3,j4,j5,j6]
  refine tW ?_ 11 rfl ?_ ?_; rotate_left
  · intro w' hSw; go_simp; try rfl
  try simp only [Act.put,j1,j2,j3,j4,j5,j6]
  refine tL ?_ 12 rfl hSc1 ?_ ?_; rotate_left
  · intro w' hSw; obtain ⟨s0, s1, s2⟩ := hSw; go_simp; try rfl
  try simp only [Act.put,j1,j2,j3,j4,j5,j6]
  refine tW ?_ 13 rfl ?_ ?_; rotate_left
  · intro w' hSw; go_simp; try rfl
  try simp only [Act.put,j1,j2,j3,j4,j5,j6]
  refine tW ?_ 14 rfl ?_ ?_; rotate_left
  · intro w' hSw; go_simp; try rfl
  try simp only [Act.put,j1,j2,j3,j4,j5,j6]
  refine tW ?_ 15 rfl ?_ ?_; rotate_left
  · intro w' hSw; go_simp; try rfl
  try simp only [Act.put,j1,j2,j3,j4,j5,j6]
  refine tL ?_ 16 rfl hSc1 ?_ ?_; rotate_left
  · intro w' hSw; obtain ⟨s0, s1, s2⟩ := hSw; go_simp; try rfl
  try simp only [Act.put,j1,j2,j3,j4,j5,j6]
  refine tW ?_ 17 rfl ?_ ?_; rotate_left
  · intro w' hSw; go_simp; try rfl
  try simp only [Act.put,j1,j2,j3,j4,j5,j6]
  refine tW ?_ 18 rfl ?_ ?_; rotate_left
  · intro w' hSw; go_simp; try rfl
  try simp only [Act.put,j1,j2,j3,j4,j5,j6]
  refine tW ?_ 19 rfl ?_ ?_; rotate_left
  · intro w' hSw; go_simp; try rfl
  try simp only [Act.put,j1,j2,j3,j4,j5,j6]
  refine tW ?_ 20 rfl ?_ ?_; rotate_left
  · intro w' hSw; go_simp; try rfl
  try simp only [Act.put,j1,j2,j3,j4,j5,j6]
  refine wpAnyG_done (by kernel_rfl) ?_ _
  obtain ⟨v1, hv1⟩ : ∃ x, v0.drew = x := ⟨_, rfl⟩
  have HBv1 : Hid (Below v0.heap.size v0 v1) := Lib.hid (by rw [← hv1]; exact (Below.refl _ _).drew)
  rw [hv1]
  have hzv1 := HBv1.out.size
  have Hv1 := Lib.hid (Hv0.out.below HBv1.out)
  have HUv1 : Hid (Upd b 0 (0 + 12) (fun k => k = g ∨ k ∈ blkOf ah) w v1) := Lib.hid (HUv0.out.below HBv1.out Hv0.out.lt)
  have qn_0 := kC HBv1.out q_l q_0
  have qn_1 := kC HBv1.out q_l q_1
  have qn_2 := kC HBv1.out q_l q_2
  have qn_3 := kC HBv1.out q_l q_3
  have qn_4 := kC HBv1.out q_l q_4
  have qn_l := Nat.lt_of_lt_of_le q_l HBv1.out.size
  clear q_0 q_1 q_2 q_3 q_4 q_l
  have HA2n := Lib.hid (HA2.out.keep HBv1.out)
  clear k_f k_l k_0 k_1 k_2 k_3 k_4 k_5 k_6 k_7 k_8 k_9 k_10 k_11 hv1 hSc1
  have k_0 := Hv1.out.e0
  have k_1 := Hv1.out.e1
  have k_2 := Hv1.out.e2
  have k_3 := Hv1.out.e3
  have k_4 := Hv1.out.e4
  have k_5 := Hv1.out.e5
  have k_6 := Hv1.out.e6
  have k_7 := Hv1.out.e7
  have k_8 := Hv1.out.e8
  have k_9 := Hv1.out.e9
  have k_10 := Hv1.out.e10
  have k_11 := Hv1.out.e11
  have k_f := Hv1.out.fz
  have k_l := Hv1.out.lt
  have htb := HOK.out.tb
  have hbh := HOK.out.bh
  obtain ⟨m, hmm⟩ : ∃ m, min n (s.bot - s.top + 1) = m := ⟨_, rfl⟩
  have hmi2 : min (n : Int) ((s.bot : Int) - (s.top : Int) + 1) = (m : Int) := by omega
  have hm10 : m ≤ 10 := by omega
  have HM := Lib.hid hmm
  have hwI : IntKind.i64.wrap ((s.bot : Int) - (s.top : Int)) = (s.bot : Int) - (s.top : Int) := IntWalk.i64_in _ ⟨by omega, by omega⟩
  have hwJ : IntKind.i64.wrap ((s.bot : Int) - (s.top : Int) + 1) = (s.bot : Int) - (s.top : Int) + 1 := IntWalk.i64_in _ ⟨by omega, by omega⟩
  have hwK : IntKind.i64.wrap (-(m : Int)) = -(m : Int) := IntWalk.i64_in _ ⟨by omega, by omega⟩
  clear hmm
  go_upto_region 43 with fail
  have hSc2 := And.intro k_5 k_6
  refine wp_region_G (fun w' => w'.cell? ⟨b, 5, none⟩ = some (.int .i64 (s.top : Int)) ∧ w'.cell? ⟨b, 6, none⟩ = some (.int .i64 (s.bot : Int))) (fun i => false) (by kernel_rfl) hSc2 ?_
  refine tW ?_ 0 rfl ?_ ?_; rotate_left
  · intro w' hSw; go_simp; try rfl
  try simp only [Act.put,j1,j2,j3,j4,j5,j6]
  refine tW ?_ 1 rfl ?_ ?_; rotate_left
  · intro w' hSw; go_simp; try rfl
  try simp only [Act.put,j1,j2,j3,j4,j5,j6]
  refine tW ?_ 2 rfl ?_ ?_; rotate_left
  · intro w' hSw; go_simp; try rfl
  try simp only [Act.put,j1,j2,j3,j4,j5,j6]
  refine tW ?_ 3 rfl ?_ ?_; rotate_left
  · intro w' hSw; go_simp; try rfl
  try simp only [Act.put,j1,j2,j3,j4,j5,j6]
  refine tL ?_ 4 rfl hSc2 ?_ ?_; rotate_left
  · intro w' hSw; obtain ⟨s0, s1⟩ := hSw; go_simp; try rfl
  try simp only [Act.put,j1,j2,j3,j4,j5,j6]
  refine tW ?_ 5 rfl ?_ ?_; rotate_left
  · intro w' hSw; go_simp; try rfl
  try simp only [Act.put,j1,j2,j3,j4,j5,j6]
  refine tW ?_ 6 rfl ?_ ?_; rotate_left
  · intro w' hSw; go_simp; try rfl
  try simp only [Act.put,j1,j2,j3,j4,j5,j6]
  refine tW ?_ 7 rfl ?_ ?_; rotate_left
  · intro w' hSw; go_simp; try rfl
  try simp only [Act.put,j1,j2,j3,j4,j5,j6]
  refine tL ?_ 8 rfl hSc2 ?_ ?_; rotate_left
  · intro w' hSw; obtain ⟨s0, s1⟩ := hSw; go_simp; try rfl
  try simp only [Act.put,j1,j2,j3,j4,j5,j6]
  refine tW ?_ 9 rfl ?_ ?_; rotate_left
  · intro w' hSw; go_simp; try rfl
  try simp only [Act.put,j1,j2,j3,j4,j5,j6]
  refine tW ?_ 10 rfl ?_ ?_; rotate_left
  · intro w' hSw; go_simp; try rfl
  try simp only [Act.put,j1,j2,j3,j4,j5,j6]
  refine tW ?_ 11 rfl ?_ ?_; rotate_left
  · intro w' hSw; go_simp; try rfl
  try simp only [Act.put,j1,j2,j3,j4,j5,j6]
  refine tW ?_ 12 rfl ?_ ?_; rotate_left
  · intro w' hSw; go_simp; try rfl
  try simp only [Act.put,j1,j2,j3,j4,j5,j6]
  refine tL ?_ 13 rfl hSc2 ?_ ?_; rotate_left
  · intro w' hSw; obtain ⟨s0, s1⟩ := hSw; go_simp; try rfl
  try simp only [Act.put,j1,j2,j3,j4,j5,j6]
  refine tW ?_ 14 rfl ?_ ?_; rotate_left
  · intro w' hSw; go_simp; try rfl
  try simp only [Act.put,j1,j2,j3,j4,j5,j6]
  refine tW ?_ 15 rfl ?_ ?_; rotate_left
  · intro w' hSw; go_simp; try rfl
  try simp only [Act.put,j1,j2,j3,j4,j5,j6]
  refine tW ?_ 16 rfl ?_ ?_; rotate_left
  · intro w' hSw; go_simp; try rfl
  try simp only [Act.put,j1,j2,j3,j4,j5,j6]
  refine tL ?_ 17 rfl hSc2 ?_ ?_; rotate_left
  · intro w' hSw; obtain ⟨s0, s1⟩ := hSw; go_simp; try rfl
  try simp only [Act.put,j1,j2,j3,j4,j5,j6]
  refine tW ?_ 18 rfl ?_ ?_; rotate_left
  · intro w' hSw; go_simp; try rfl
  try simp only [Act.put,j1,j2,j3,j4,j5,j6]
  refine tW ?_ 19 rfl ?_ ?_; rotate_left
  · intro w' hSw; go_simp; try rfl
  try simp only [Act.put,j1,j2,j3,j4,j5,j6]
  refine tW ?_ 20 rfl ?_ ?_; rotate_left
  · intro w' hSw; go_simp; try rfl
  try simp only [Act.put,j1,j2,j3,j4,j5,j6]
  refine wpAnyG_one (i := 21) (by kernel_rfl) rfl hSc2 (fun K' hK => ?_)
  simp only [j1,j2,j3]
  go_simp
  refine (scrollU_c lo b s g cc ah dh _ s.top s.bot m Hv1.out.drew HOK.out (Nat.le_of_lt HOK.out.tb) HOK.out.bh hm10 (by show lo ≤ v1.heap.size; omega)).mono ?_
  rintro e x1 ⟨rfl, hr, _⟩
  have HR : Hid (ScrR lo b 0 (scU true s.top s.bot m s) g ah w x1) := Lib.hid (ScrR.trans Hv1.out.drew HUv1.out.drew (.inl rfl) (fun _ h => .inl h) hr)
  have e1 := scU_same true s.top s.bot s m
  obtain ⟨g1, cc1, ah1, dh1, ha, _⟩ := hr
  have hSx : x1.cell? ⟨b, 5, none⟩ = some (.int .i64 (s.top : Int)) ∧ x1.cell? ⟨b, 6, none⟩ = some (.int .i64 (s.bot : Int)) := ⟨by have := ha.c5; rw [e1.2.2.2.2.2.1] at this; exact this, by have := ha.c6; rw [e1.2.2.2.2.2.2.1] at this; exact this⟩
  clear ha
  refine hK.out _ _ (Or.inr hSx) ?_
  clear hK K'
  try simp only [Act.put,j1,j2,j3,j4,j5,j6]
  refine wpAnyG_done (by kernel_rfl) ?_ _
  go_wp2_with fail
  first | refine bodyPost_end (v := .tuple #[]) (by simp [results, Try.results70]) rfl ?_ | refine bodyPost_ret (v := .tuple #[]) (by simp [results, Try.results70]) rfl ?_
  refine ⟨rfl, ?_⟩
  unfold csiS
  rw [if_neg (by decide), if_neg (by decide), if_neg (by decide), if_neg (by decide), if_neg (by decide), if_neg (by decide), if_neg (by decide), if_neg (by decide), if_neg (by decide), if_pos (by decide)]
  rw [HN.out, HM.out]
  exact HR.out
theorem csi84_c (lo b : Nat) (s : Scr) (g cc : Nat) (ah : Option Addr) (dh : Nat) (w : World) (kd : Int) (xs : List Int) (aa : Option Addr) (ca : Nat) (tx : ByteArray) (h : ScrAt lo b 0 s g cc ah dh w) (ok : ScrOK s) (hlo : lo ≤ w.heap.size) (ha : Sl intE 1 w aa xs) (hna : ∀ k ∈ blkOf aa, k ≠ b ∧ k ≠ g ∧ k ∉ blkOf ah) (hx8 : xs.length ≤ 8) (hxr : ∀ x ∈ xs, -1 ≤ x ∧ x ≤ 9999) :
    Calls Try.prog 70 #[.pointer (some ⟨b, 0, none⟩), .agg #[.int .i64 kd, .int .i64 84, .bool false, .slice aa xs.length ca, .string tx]] w fun e w' => e = .returned (.tuple #[]) ∧ ScrR lo b 0 (csiS s 84 xs) g ah w w' := by
  have HS := Lib.hid h
  have HOK := Lib.hid ok
  have HA := Lib.hid ha
  have HNA := Lib.hid hna
  have HXR := Lib.hid hxr
  have HX8 := Lib.hid hx8
  have hw1 := ok.w1
  have hw2 := ok.w2
  have hh1 := ok.h1
  have hh2 := ok.h2
  have hx := ok.hx
  have hy := ok.hy
  have hcur := ok.cur
  have hcn := ok.cn
  have hlt := h.lt
  obtain ⟨n, hn⟩ : ∃ n, arg1 xs 0 = n := ⟨_, rfl⟩
  obtain ⟨A0, hA0⟩ : ∃ a, argA xs 0 1 = a := ⟨_, rfl⟩
  have hAb : -1 ≤ A0 ∧ A0 ≤ 9999 := by rw [← hA0]; exact argA_bd HXR.out (by omega) (by omega)
  have hm : max 1 A0 = (n : Int) := by rw [← hn, ← hA0]; unfold arg1; omega
  have hn1 : 1 ≤ n := by omega
  have hn2 : n ≤ 9999 := by omega
  have HN := Lib.hid hn
  have HA0 := Lib.hid hA0
  obtain ⟨p, hp⟩ : ∃ p, s.y * s.w = p := ⟨_, rfl⟩
  obtain ⟨mx, hmx⟩ : ∃ m, min s.x (s.w - 1) = m := ⟨_, rfl⟩
  obtain ⟨cr, hcr⟩ : ∃ c, curS s = c := ⟨_, rfl⟩
  obtain ⟨pn, hpn⟩ : ∃ q, (s.y + 1) * s.w = q := ⟨_, rfl⟩
  obtain ⟨nn, hnn⟩ : ∃ q, s.w * s.h = q := ⟨_, rfl⟩
  have hpi : (s.y : Int) * (s.w : Int) = (p : Int) := by rw [← hp]; exact (Int.natCast_mul _ _).symm
  have hpni : ((s.y : Int) + 1) * (s.w : Int) = (pn : Int) := by rw [← hpn]; exact (Int.natCast_mul (s.y + 1) s.w).symm
  have hnni : (s.w : Int) * (s.h : Int) = (nn : Int) := by rw [← hnn]; exact (Int.natCast_mul _ _).symm
  have hmi : min (s.x : Int) ((s.w : Int) - 1) = (mx : Int) := by omega
  have hcri : (p : Int) + (mx : Int) = (cr : Int) := by rw [← hcr, ← hp, ← hmx]; unfold curS; omega
  have hn240 : nn ≤ 240 := by rw [← hnn]; exact Nat.mul_le_mul hw2 hh2
  rw [hcr, hp, hpn, hnn] at hcur
  rw [hnn] at hcn
  obtain ⟨hc1, hc2, hc3⟩ := hcur
  have HCN := Lib.hid hcn
  have HP := Lib.hid hp
  have HMX := Lib.hid hmx
  have HCR := Lib.hid hcr
  have HPN := Lib.hid hpn
  have HNN := Lib.hid hnn
  have hwA : IntKind.i64.wrap ((s.w : Int) - 1) = (s.w : Int) - 1 := IntWalk.i64_in _ ⟨by omega, by omega⟩
  have hwB : IntKind.i64.wrap (p : Int) = (p : Int) := IntWalk.i64_in _ ⟨by omega, by omega⟩
  have hwC : IntKind.i64.wrap (cr : Int) = (cr : Int) := IntWalk.i64_in _ ⟨by omega, by omega⟩
  have hwD : IntKind.i64.wrap (pn : Int) = (pn : Int) := IntWalk.i64_in _ ⟨by omega, by omega⟩
  have hwE : IntKind.i64.wrap (nn : Int) = (nn : Int) := IntWalk.i64_in _ ⟨by omega, by omega⟩
  have hwF : IntKind.i64.wrap ((s.y : Int) + 1) = (s.y : Int) + 1 := IntWalk.i64_in _ ⟨by omega, by omega⟩
  have hwG : IntKind.i64.wrap ((cr : Int) + 1) = (cr : Int) + 1 := IntWalk.i64_in _ ⟨by omega, by omega⟩
  obtain ⟨ln, hln⟩ : ∃ l, xs.length = l := ⟨_, rfl⟩
  have HLN := Lib.hid hln
  have HCALL : ∀ (i : Nat) (d : Int) (W : World), i ≤ 7 → Sl intE 1 W aa xs → Calls Try.prog 84 #[.agg #[.int .i64 kd, .int .i64 84, .bool false, .slice aa ln ca, .string tx], .int .i64 i, .int .i64 d] W fun e w' => e = .returned (.int .i64 (argA xs i d)) ∧ Below W.heap.size W w' := fun i d W hi hW => by
    rw [← hln]
    exact l03ArgG_c kd 84 false tx xs aa ca i d W hW hi hx8
  rw [hln]
  clear h ok ha hna hxr hx8 hn hA0 hp hmx hcr hpn hnn hcn hln
  go_enter Try.func70, Try.ntmps70
  go_wp2_with fail
  refine (HCALL 0 1 _ (by omega) (HA.out.alloc _)).mono ?_
  rintro e v0 ⟨rfl, hb0⟩
  rw [HA0.out]
  have HB0 : Hid (Below w.heap.size w v0) := Lib.hid (((Below.refl w.heap.size w).alloc (Nat.le_refl _) _).trans (hb0.mono (by simp)))
  have hz0 := HB0.out.size
  have q_l : w.heap.size < v0.heap.size := by have := hb0.size; simp at this; omega
  have q_0 : v0.cell? ⟨w.heap.size, 0, none⟩ = some (.int .i64 kd) := kC hb0 (by simp) (by simp [go_sem])
  have q_1 : v0.cell? ⟨w.heap.size, 1, none⟩ = some (.int .i64 84) := kC hb0 (by simp) (by simp [go_sem])
  have q_2 : v0.cell? ⟨w.heap.size, 2, none⟩ = some (.bool false) := kC hb0 (by simp) (by simp [go_sem])
  have q_3 : v0.cell? ⟨w.heap.size, 3, none⟩ = some (.slice aa ln ca) := kC hb0 (by simp) (by simp [go_sem])
  have q_4 : v0.cell? ⟨w.heap.size, 4, none⟩ = some (.string tx) := kC hb0 (by simp) (by simp [go_sem])
  clear hb0
  have q_b : ¬ w.heap.size = b := by omega
  have HA_nb : ∀ k ∈ blkOf aa, ¬ k = b := fun k hk => (HNA.out k hk).1
  have Hv0 := Lib.hid (HS.out.below HB0.out)
  have HA2 := Lib.hid (HA.out.keep HB0.out)
  have HUv0 : Hid (Upd b 0 (0 + 12) (fun k => k = g ∨ k ∈ blkOf ah) w v0) := Lib.hid (Upd.refl'.below HB0.out HS.out.lt)
  have HA2_nb := HA_nb
  have k_0 := Hv0.out.e0
  have k_1 := Hv0.out.e1
  have k_2 := Hv0.out.e2
  have k_3 := Hv0.out.e3
  have k_4 := Hv0.out.e4
  have k_5 := Hv0.out.e5
  have k_6 := Hv0.out.e6
  have k_7 := Hv0.out.e7
  have k_8 := Hv0.out.e8
  have k_9 := Hv0.out.e9
  have k_10 := Hv0.out.e10
  have k_11 := Hv0.out.e11
  have k_f := Hv0.out.fz
  have k_l := Hv0.out.lt
  go_upto_region 4 with fail
  have hSc1 := And.intro k_0 (And.intro k_2 k_3)
  refine wp_region_G (fun w' => w'.cell? ⟨b, 0, none⟩ = some (.int .i64 (s.w : Int)) ∧ w'.cell? ⟨b, 2, none⟩ = some (.int .i64 (s.x : Int)) ∧ w'.cell? ⟨b, 3, none⟩ = some (.int .i64 (s.y : Int))) (fun i => false) (by kernel_rfl) hSc1 ?_
  refine tW ?_ 0 rfl ?_ ?_; rotate_left
  · intro w' hSw; go_simp; try rfl
  try simp only [Act.put,j1,j2,j3,j4,j5,j6]
  refine tW ?_ 1 rfl ?_ ?_; rotate_left
  · intro w' hSw; go_simp; try rfl
  try simp only [Act.put,j1,j2,j3,j4,j5,j6]
  refine tW ?_ 2 rfl ?_ ?_; rotate_left
  · intro w' hSw; go_simp; try rfl
  try simp only [Act.put,j1,j2,j3,j4,j5,j6]
  refine tL ?_ 3 rfl hSc1 ?_ ?_; rotate_left
  · intro w' hSw; obtain ⟨s0, s1, s2⟩ := hSw; go_simp; try rfl
  try simp only [Act.put,j1,j2,j3,j4,j5,j6]
  refine tW ?_ 4 rfl ?_ ?_; rotate_left
  · intro w' hSw; go_simp; try rfl
  try simp only [Act.put,j1,j2,j3,j4,j5,j6]
  refine tW ?_ 5 rfl ?_ ?_; rotate_left
  · intro w' hSw; go_simp; try rfl
  try simp only [Act.put,j1,j2,j3,j4,j5,j6]
  refine tW ?_ 6 rfl ?_ ?_; rotate_left
  · intro w' hSw; go_simp; try rfl
  try simp only [Act.put,j1,j2,j3,j4,j5,j6]
  refine tL ?_ 7 rfl hSc1 ?_ ?_; rotate_left
  · intro w' hSw; obtain ⟨s0, s1, s2⟩ := hSw; go_simp; try rfl
  try simp only [Act.put,j1,j2,j3,j4,j5,j6]
  refine tW ?_ 8 rfl ?_ ?_; rotate_left
  · intro w' hSw; go_simp; try rfl
  try simp only [Act.put,j1,j2,j3,j4,j5,j6]
  refine tW ?_ 9 rfl ?_ ?_; rotate_left
  · intro w' hSw; go_simp; try rfl
  try simp only [Act.put,j1,j2,j3,j4,j5,j6]
  refine tW ?_ 10 rfl ?_ ?_; rotate_left
  · intro w' hSw; go_simp; try rfl
  try simp only [Act.put,j1,j2,j3,j4,j5,j6]
  refine tW ?_ 11 rfl ?_ ?_; rotate_left
  · intro w' hSw; go_simp; try rfl
  try simp only [Act.put,j1,j2,j3,j4,j5,j6]
  refine tL ?_ 12 rfl hSc1 ?_ ?_; rotate_left
  · intro w' hSw; obtain ⟨s0, s1, s2⟩ := hSw; go_simp; try rfl
  try simp only [Act.put,j1,j2,j3,j4,j5,j6]
  refine tW ?_ 13 rfl ?_ ?_; rotate_left
  · intro w' hSw; go_simp; try rfl
  try simp only [Act.put,j1,j2,j3,j4,j5,j6]
  refine tW ?_ 14 rfl ?_ ?_; rotate_left
  · intro w' hSw; go_simp; try rfl
  try simp only [Act.put,j1,j2,j3,j4,j5,j6]
  refine tW ?_ 15 rfl ?_ ?_; rotate_left
  · intro w' hSw; go_simp; try rfl
  try simp only [Act.put,j1,j2,j3,j4,j5,j6]
  refine tL ?_ 16 rfl hSc1 ?_ ?_; rotate_left
  · intro w' hSw; obtain ⟨s0, s1, s2⟩ := hSw; go_simp; try rfl
  try simp only [Act.put,j1,j2,j3,j4,j5,j6]
  refine tW ?_ 17 rfl ?_ ?_; rotate_left
  · intro w' hSw; go_simp; try rfl
  try simp only [Act.put,j1,j2,j3,j4,j5,j6]
  refine tW ?_ 18 rfl ?_ ?_; rotate_left
  · intro w' hSw; go_simp; try rfl
  try simp only [Act.put,j1,j2,j3,j4,j5,j6]
  refine tW ?_ 19 rfl ?_ ?_; rotate_left
  · intro w' hSw; go_simp; try rfl
  try simp only [Act.put,j1,j2,j3,j4,j5,j6]
  refine tW ?_ 20 rfl ?_ ?_; rotate_left
  · intro w' hSw; go_simp; try rfl
  try simp only [Act.put,j1,j2,j3,j4,j5,j6]
  refine wpAnyG_done (by kernel_rfl) ?_ _
  obtain ⟨v1, hv1⟩ : ∃ x, v0.drew = x := ⟨_, rfl⟩
  have HBv1 : Hid (Below v0.heap.size v0 v1) := Lib.hid (by rw [← hv1]; exact (Below.refl _ _).drew)
  rw [hv1]
  have hzv1 := HBv1.out.size
  have Hv1 := Lib.hid (Hv0.out.below HBv1.out)
  have HUv1 : Hid (Upd b 0 (0 + 12) (fun k => k = g ∨ k ∈ blkOf ah) w v1) := Lib.hid (HUv0.out.below HBv1.out Hv0.out.lt)
  have qn_0 := kC HBv1.out q_l q_0
  have qn_1 := kC HBv1.out q_l q_1
  have qn_2 := kC HBv1.out q_l q_2
  have qn_3 := kC HBv1.out q_l q_3
  have qn_4 := kC HBv1.out q_l q_4
  have qn_l := Nat.lt_of_lt_of_le q_l HBv1.out.size
  clear q_0 q_1 q_2 q_3 q_4 q_l
  have HA2n := Lib.hid (HA2.out.keep HBv1.out)
  clear k_f k_l k_0 k_1 k_2 k_3 k_4 k_5 k_6 k_7 k_8 k_9 k_10 k_11 hv1 hSc1
  have k_0 := Hv1.out.e0
  have k_1 := Hv1.out.e1
  have k_2 := Hv1.out.e2
  have k_3 := Hv1.out.e3
  have k_4 := Hv1.out.e4
  have k_5 := Hv1.out.e5
  have k_6 := Hv1.out.e6
  have k_7 := Hv1.out.e7
  have k_8 := Hv1.out.e8
  have k_9 := Hv1.out.e9
  have k_10 := Hv1.out.e10
  have k_11 := Hv1.out.e11
  have k_f := Hv1.out.fz
  have k_l := Hv1.out.lt
  have htb := HOK.out.tb
  have hbh := HOK.out.bh
  obtain ⟨m, hmm⟩ : ∃ m, min n (s.bot - s.top + 1) = m := ⟨_, rfl⟩
  have hmi2 : min (n : Int) ((s.bot : Int) - (s.top : Int) + 1) = (m : Int) := by omega
  have hm10 : m ≤ 10 := by omega
  have HM := Lib.hid hmm
  have hwI : IntKind.i64.wrap ((s.bot : Int) - (s.top : Int)) = (s.bot : Int) - (s.top : Int) := IntWalk.i64_in _ ⟨by omega, by omega⟩
  have hwJ : IntKind.i64.wrap ((s.bot : Int) - (s.top : Int) + 1) = (s.bot : Int) - (s.top : Int) + 1 := IntWalk.i64_in _ ⟨by omega, by omega⟩
  have hwK : IntKind.i64.wrap (-(m : Int)) = -(m : Int) := IntWalk.i64_in _ ⟨by omega, by omega⟩
  clear hmm
  go_upto_region 45 with fail
  have hSc2 := And.intro k_5 k_6
  refine wp_region_G (fun w' => w'.cell? ⟨b, 5, none⟩ = some (.int .i64 (s.top : Int)) ∧ w'.cell? ⟨b, 6, none⟩ = some (.int .i64 (s.bot : Int))) (fun i => false) (by kernel_rfl) hSc2 ?_
  refine tW ?_ 0 rfl ?_ ?_; rotate_left
  · intro w' hSw; go_simp; try rfl
  try simp only [Act.put,j1,j2,j3,j4,j5,j6]
  refine tW ?_ 1 rfl ?_ ?_; rotate_left
  · intro w' hSw; go_simp; try rfl
  try simp only [Act.put,j1,j2,j3,j4,j5,j6]
  refine tW ?_ 2 rfl ?_ ?_; rotate_left
  · intro w' hSw; go_simp; try rfl
  try simp only [Act.put,j1,j2,j3,j4,j5,j6]
  refine tW ?_ 3 rfl ?_ ?_; rotate_left
  · intro w' hSw; go_simp; try rfl
  try simp only [Act.put,j1,j2,j3,j4,j5,j6]
  refine tL ?_ 4 rfl hSc2 ?_ ?_; rotate_left
  · intro w' hSw; obtain ⟨s0, s1⟩ := hSw; go_simp; try rfl
  try simp only [Act.put,j1,j2,j3,j4,j5,j6]
  refine tW ?_ 5 rfl ?_ ?_; rotate_left
  · intro w' hSw; go_simp; try rfl
  try simp only [Act.put,j1,j2,j3,j4,j5,j6]
  refine tW ?_ 6 rfl ?_ ?_; rotate_left
  · intro w' hSw; go_simp; try rfl
  try simp only [Act.put,j1,j2,j3,j4,j5,j6]
  refine tW ?_ 7 rfl ?_ ?_; rotate_left
  · intro w' hSw; go_simp; try rfl
  try simp only [Act.put,j1,j2,j3,j4,j5,j6]
  refine tL ?_ 8 rfl hSc2 ?_ ?_; rotate_left
  · intro w' hSw; obtain ⟨s0, s1⟩ := hSw; go_simp; try rfl
  try simp only [Act.put,j1,j2,j3,j4,j5,j6]
  refine tW ?_ 9 rfl ?_ ?_; rotate_left
  · intro w' hSw; go_simp; try rfl
  try simp only [Act.put,j1,j2,j3,j4,j5,j6]
  refine tW ?_ 10 rfl ?_ ?_; rotate_left
  · intro w' hSw; go_simp; try rfl
  try simp only [Act.put,j1,j2,j3,j4,j5,j6]
  refine tW ?_ 11 rfl ?_ ?_; rotate_left
  · intro w' hSw; go_simp; try rfl
  try simp only [Act.put,j1,j2,j3,j4,j5,j6]
  refine tW ?_ 12 rfl ?_ ?_; rotate_left
  · intro w' hSw; go_simp; try rfl
  try simp only [Act.put,j1,j2,j3,j4,j5,j6]
  refine tL ?_ 13 rfl hSc2 ?_ ?_; rotate_left
  · intro w' hSw; obtain ⟨s0, s1⟩ := hSw; go_simp; try rfl
  try simp only [Act.put,j1,j2,j3,j4,j5,j6]
  refine tW ?_ 14 rfl ?_ ?_; rotate_left
  · intro w' hSw; go_simp; try rfl
  try simp only [Act.put,j1,j2,j3,j4,j5,j6]
  refine tW ?_ 15 rfl ?_ ?_; rotate_left
  · intro w' hSw; go_simp; try rfl
  try simp only [Act.put,j1,j2,j3,j4,j5,j6]
  refine tW ?_ 16 rfl ?_ ?_; rotate_left
  · intro w' hSw; go_simp; try rfl
  try simp only [Act.put,j1,j2,j3,j4,j5,j6]
  refine tL ?_ 17 rfl hSc2 ?_ ?_; rotate_left
  · intro w' hSw; obtain ⟨s0, s1⟩ := hSw; go_simp; try rfl
  try simp only [Act.put,j1,j2,j3,j4,j5,j6]
  refine tW ?_ 18 rfl ?_ ?_; rotate_left
  · intro w' hSw; go_simp; try rfl
  try simp only [Act.put,j1,j2,j3,j4,j5,j6]
  refine tW ?_ 19 rfl ?_ ?_; rotate_left
  · intro w' hSw; go_simp; try rfl
  try simp only [Act.put,j1,j2,j3,j4,j5,j6]
  refine tW ?_ 20 rfl ?_ ?_; rotate_left
  · intro w' hSw; go_simp; try rfl
  try simp only [Act.put,j1,j2,j3,j4,j5,j6]
  refine tW ?_ 21 rfl ?_ ?_; rotate_left
  · intro w' hSw; go_simp; try rfl
  try simp only [Act.put,j1,j2,j3,j4,j5,j6]
  refine wpAnyG_one (i := 22) (by kernel_rfl) rfl hSc2 (fun K' hK => ?_)
  simp only [j1,j2,j3]
  go_simp
  refine (scrollD_c lo b s g cc ah dh _ s.top s.bot m Hv1.out.drew HOK.out (Nat.le_of_lt HOK.out.tb) HOK.out.bh hm10).mono ?_
  rintro e x1 ⟨rfl, ha, hc⟩
  have HR : Hid (ScrR lo b 0 (scD s.top s.bot m s) g ah w x1) := Lib.hid (.mk ha (HUv1.out.drew.transN (Upd.ofCh (S := fun i => i = g) hc Hv1.out.lt (fun e => HS.out.gb e.symm) (fun i hi => .inl hi)) (fun i hi => .inl (.inl hi))))
  have e1 := scD_same s.top s.bot s m
  have hSx : x1.cell? ⟨b, 5, none⟩ = some (.int .i64 (s.top : Int)) ∧ x1.cell? ⟨b, 6, none⟩ = some (.int .i64 (s.bot : Int)) := ⟨by have := ha.c5; rw [e1.2.2.2.2.2.1] at this; exact this, by have := ha.c6; rw [e1.2.2.2.2.2.2.1] at this; exact this⟩
  clear ha hc
  refine hK.out _ _ (Or.inr hSx) ?_
  clear hK K'
  try simp only [Act.put,j1,j2,j3,j4,j5,j6]
  refine wpAnyG_done (by kernel_rfl) ?_ _
  go_wp2_with fail
  first | refine bodyPost_end (v := .tuple #[]) (by simp [results, Try.results70]) rfl ?_ | refine bodyPost_ret (v := .tuple #[]) (by simp [results, Try.results70]) rfl ?_
  refine ⟨rfl, ?_⟩
  unfold csiS
  rw [if_neg (by decide), if_neg (by decide), if_neg (by decide), if_neg (by decide), if_neg (by decide), if_neg (by decide), if_neg (by decide), if_neg (by decide), if_neg (by decide), if_neg (by decide), if_pos (by decide)]
  rw [HN.out, HM.out]
  exact HR.out
end
section
open Go.RowKit
theorem bvNat (a : Nat) (ha : a < 4611686018427387904) : (BitVec.ofInt 64 (a : Int)).toNat = a := by
  rw [BitVec.ofInt_natCast, BitVec.toNat_ofNat]; exact Nat.mod_eq_of_lt (by omega)
theorem or_i64 (a b : Nat) (ha : a < 4611686018427387904) (hb : b < 4611686018427387904) : bits .or .i64 (a : Int) (b : Int) = ((a ||| b : Nat) : Int) := by
  have hx : a ||| b < 2 ^ 62 := Nat.or_lt_two_pow (by omega) (by omega)
  show IntKind.i64.wrap ((BitVec.ofInt 64 (a : Int) ||| BitVec.ofInt 64 (b : Int)).toNat : Int) = _
  rw [BitVec.toNat_or, bvNat a ha, bvNat b hb, IntKind.wrap_i64]
  omega
theorem and_i64 (a b : Nat) (ha : a < 4611686018427387904) (hb : b < 4611686018427387904) : bits .and .i64 (a : Int) (b : Int) = ((a &&& b : Nat) : Int) := by
  have hx : a &&& b < 2 ^ 62 := Nat.and_lt_two_pow _ (by omega)
  show IntKind.i64.wrap ((BitVec.ofInt 64 (a : Int) &&& BitVec.ofInt 64 (b : Int)).toNat : Int) = _
  rw [BitVec.toNat_and, bvNat a ha, bvNat b hb, IntKind.wrap_i64]
  omega
theorem look_c (lo b : Nat) (s : Scr) (g cc : Nat) (ah : Option Addr) (dh : Nat) (w : World) (n : Int) (h : ScrAt lo b 0 s g cc ah dh w) (ok : ScrOK s) (hlo : lo ≤ w.heap.size) (hn : 0 ≤ n ∧ n ≤ 9999) :
    Calls Try.prog 88 #[.pointer (some ⟨b, 0, none⟩), .int .i64 n] w fun e w' => e = .returned (.tuple #[]) ∧ ScrR lo b 0 ({ s with look := lookN s.look n }) g ah w w' := by
  have HS := Lib.hid h
  have HOK := Lib.hid ok
  have hw1 := ok.w1
  have hw2 := ok.w2
  have hh1 := ok.h1
  have hh2 := ok.h2
  have hx := ok.hx
  have hy := ok.hy
  clear h ok
  have k_4 := HS.out.c4
  have k_f := HS.out.fz
  have k_l := HS.out.lt
  obtain ⟨l, hl⟩ : ∃ l, s.look = l := ⟨_, rfl⟩
  have hl7 : l ≤ 127 := by rw [← hl]; exact HOK.out.lk
  have HL := Lib.hid hl
  rw [hl] at k_4
  clear hl
  by_cases h0 : n = 0
  · subst h0
    go_enter Try.func88, Try.ntmps88
    go_wp2_with fail
    first | refine bodyPost_end (v := .tuple #[]) (by simp [results, Try.results88]) rfl ?_ | refine bodyPost_ret (v := .tuple #[]) (by simp [results, Try.results88]) rfl ?_
    refine ⟨rfl, ?_⟩
    rw [HL.out]
    have e1 : lookN l 0 = 0 := rfl
    rw [e1]
    refine ScrR.mk (cc := cc) (dh := dh) ?_ ?_
    · repeat (with_reducible refine ScrAt.drew ?_)
      exact HS.out.setv4 _ rfl
    · repeat (with_reducible refine Upd.drew ?_)
      exact Upd.refl'.set4 _
  by_cases h1 : n = 1
  · subst h1
    have hb : bits .or .i64 (l : Int) 64 = ((l ||| 64 : Nat) : Int) := or_i64 l 64 (by omega) (by omega)
    obtain ⟨L, hL⟩ : ∃ L, l ||| 64 = L := ⟨_, rfl⟩
    rw [hL] at hb
    have HLL := Lib.hid hL
    clear hL
    go_enter Try.func88, Try.ntmps88
    go_wp2_with fail
    first | refine bodyPost_end (v := .tuple #[]) (by simp [results, Try.results88]) rfl ?_ | refine bodyPost_ret (v := .tuple #[]) (by simp [results, Try.results88]) rfl ?_
    refine ⟨rfl, ?_⟩
    rw [HL.out]
    have e1 : lookN l 1 = L := by rw [← HLL.out]; rfl
    rw [e1]
    refine ScrR.mk (cc := cc) (dh := dh) ?_ ?_
    · repeat (with_reducible refine ScrAt.drew ?_)
      exact HS.out.setv4 _ rfl
    · repeat (with_reducible refine Upd.drew ?_)
      exact Upd.refl'.set4 _
  by_cases h4 : n = 4
  · subst h4
    have hb : bits .or .i64 (l : Int) 32 = ((l ||| 32 : Nat) : Int) := or_i64 l 32 (by omega) (by omega)
    obtain ⟨L, hL⟩ : ∃ L, l ||| 32 = L := ⟨_, rfl⟩
    rw [hL] at hb
    have HLL := Lib.hid hL
    clear hL
    go_enter Try.func88, Try.ntmps88
    go_wp2_with fail
    first | refine bodyPost_end (v := .tuple #[]) (by simp [results, Try.results88]) rfl ?_ | refine bodyPost_ret (v := .tuple #[]) (by simp [results, Try.results88]) rfl ?_
    refine ⟨rfl, ?_⟩
    rw [HL.out]
    have e1 : lookN l 4 = L := by rw [← HLL.out]; rfl
    rw [e1]
    refine ScrR.mk (cc := cc) (dh := dh) ?_ ?_
    · repeat (with_reducible refine ScrAt.drew ?_)
      exact HS.out.setv4 _ rfl
    · repeat (with_reducible refine Upd.drew ?_)
      exact Upd.refl'.set4 _
  by_cases h7 : n = 7
  · subst h7
    have hb : bits .or .i64 (l : Int) 16 = ((l ||| 16 : Nat) : Int) := or_i64 l 16 (by omega) (by omega)
    obtain ⟨L, hL⟩ : ∃ L, l ||| 16 = L := ⟨_, rfl⟩
    rw [hL] at hb
    have HLL := Lib.hid hL
    clear hL
    go_enter Try.func88, Try.ntmps88
    go_wp2_with fail
    first | refine bodyPost_end (v := .tuple #[]) (by simp [results, Try.results88]) rfl ?_ | refine bodyPost_ret (v := .tuple #[]) (by simp [results, Try.results88]) rfl ?_
    refine ⟨rfl, ?_⟩
    rw [HL.out]
    have e1 : lookN l 7 = L := by rw [← HLL.out]; rfl
    rw [e1]
    refine ScrR.mk (cc := cc) (dh := dh) ?_ ?_
    · repeat (with_reducible refine ScrAt.drew ?_)
      exact HS.out.setv4 _ rfl
    · repeat (with_reducible refine Upd.drew ?_)
      exact Upd.refl'.set4 _
  have q0 : (n == 0) = false := beq_eq_false_iff_ne.2 h0
  have q1 : (n == 1) = false := beq_eq_false_iff_ne.2 h1
  have q4 : (n == 4) = false := beq_eq_false_iff_ne.2 h4
  have q7 : (n == 7) = false := beq_eq_false_iff_ne.2 h7
  have hand : bits .and .i64 (l : Int) 112 = ((l &&& 112 : Nat) : Int) := and_i64 l 112 (by omega) (by omega)
  obtain ⟨M, hM⟩ : ∃ L, l &&& 112 = L := ⟨_, rfl⟩
  have hM7 : M ≤ 112 := by rw [← hM]; exact Nat.and_le_right
  rw [hM] at hand
  have HM := Lib.hid hM
  clear hM
  by_cases hr : 30 ≤ n ∧ n ≤ 37
  · obtain ⟨hr1, hr2⟩ := hr
    have HI : Hid (inB n 30 37 = true) := Lib.hid (by simp [inB]; omega)
    obtain ⟨d, hd⟩ : ∃ d : Nat, n - 29 = (d : Int) := ⟨(n - 29).toNat, by omega⟩
    have hor : bits .or .i64 (M : Int) (d : Int) = ((M ||| d : Nat) : Int) := or_i64 M d (by omega) (by omega)
    obtain ⟨L, hL⟩ : ∃ L, M ||| d = L := ⟨_, rfl⟩
    rw [hL] at hor
    have HLL := Lib.hid hL
    have HD := Lib.hid hd
    clear hL
    go_enter Try.func88, Try.ntmps88
    go_wp2_with (go_at_call 36; refine (l01In_c _ _ _ _).mono ?_; rw [HI.out]; rintro e w' ⟨rfl, rfl⟩)
    first | refine bodyPost_end (v := .tuple #[]) (by simp [results, Try.results88]) rfl ?_ | refine bodyPost_ret (v := .tuple #[]) (by simp [results, Try.results88]) rfl ?_
    refine ⟨rfl, ?_⟩
    rw [HL.out]
    have e1 : lookN l n = L := by unfold lookN; rw [if_neg (by omega), if_neg h1, if_neg h4, if_neg h7, if_pos (by omega), HM.out, ← HLL.out]; congr 1; have := HD.out; omega
    rw [e1]
    refine ScrR.mk (cc := cc) (dh := dh) ?_ ?_
    · repeat (with_reducible refine ScrAt.drew ?_)
      exact HS.out.setv4 _ rfl
    · repeat (with_reducible refine Upd.drew ?_)
      exact Upd.refl'.set4 _
  · have HI : Hid (inB n 30 37 = false) := Lib.hid (by simp only [inB, Bool.and_eq_false_iff, decide_eq_false_iff_not]; omega)
    by_cases h39 : n = 39
    · subst h39
      go_enter Try.func88, Try.ntmps88
      go_wp2_with (go_at_call 36; refine (l01In_c _ _ _ _).mono ?_; rw [HI.out]; rintro e w' ⟨rfl, rfl⟩)
      first | refine bodyPost_end (v := .tuple #[]) (by simp [results, Try.results88]) rfl ?_ | refine bodyPost_ret (v := .tuple #[]) (by simp [results, Try.results88]) rfl ?_
      refine ⟨rfl, ?_⟩
      rw [HL.out]
      have e1 : lookN l 39 = M := HM.out
      rw [e1]
      refine ScrR.mk (cc := cc) (dh := dh) ?_ ?_
      · repeat (with_reducible refine ScrAt.drew ?_)
        exact HS.out.setv4 _ rfl
      · repeat (with_reducible refine Upd.drew ?_)
        exact Upd.refl'.set4 _
    · have q39 : (n == 39) = false := beq_eq_false_iff_ne.2 h39
      go_enter Try.func88, Try.ntmps88
      go_wp2_with (go_at_call 36; refine (l01In_c _ _ _ _).mono ?_; rw [HI.out]; rintro e w' ⟨rfl, rfl⟩)
      first | refine bodyPost_end (v := .tuple #[]) (by simp [results, Try.results88]) rfl ?_ | refine bodyPost_ret (v := .tuple #[]) (by simp [results, Try.results88]) rfl ?_
      refine ⟨rfl, ?_⟩
      rw [HL.out]
      have e1 : lookN l n = l := by unfold lookN; rw [if_neg (by omega), if_neg h1, if_neg h4, if_neg h7, if_neg hr, if_neg h39]
      rw [e1]
      refine ScrR.mk (cc := cc) (dh := dh) ?_ ?_
      · repeat (with_reducible refine ScrAt.drew ?_)
        exact HS.out.setv4 _ rfl
      · repeat (with_reducible refine Upd.drew ?_)
        exact Upd.refl'.set4 _
end
section
open Go.RowKit
theorem lookN_max (l : Nat) (x : Int) : lookN l (max 0 x) = lookN l x := by
  by_cases h : x ≤ 0
  · rw [show max 0 x = 0 by omega]
    unfold lookN
    rw [if_pos (by omega), if_pos h]
  · rw [show max 0 x = x by omega]
theorem looksOK {s : Scr} (h : ScrOK s) (xs : List Int) : ScrOK { s with look := xs.foldl lookN s.look } :=
  ⟨h.w1, h.w2, h.h1, h.h2, h.hx, h.hy, looks_ok h.lk xs, h.tb, h.bh, h.hsx, h.hsy, h.ti, h.cn, h.cs, h.hn, h.hs⟩
theorem csi109_c (lo b : Nat) (s : Scr) (g cc : Nat) (ah : Option Addr) (dh : Nat) (w : World) (kd : Int) (xs : List Int) (aa : Option Addr) (ca : Nat) (tx : ByteArray) (h : ScrAt lo b 0 s g cc ah dh w) (ok : ScrOK s) (hlo : lo ≤ w.heap.size) (ha : Sl intE 1 w aa xs) (hna : ∀ k ∈ blkOf aa, k ≠ b ∧ k ≠ g ∧ k ∉ blkOf ah) (hx8 : xs.length ≤ 8) (hxr : ∀ x ∈ xs, -1 ≤ x ∧ x ≤ 9999) :
    Calls Try.prog 70 #[.pointer (some ⟨b, 0, none⟩), .agg #[.int .i64 kd, .int .i64 109, .bool false, .slice aa xs.length ca, .string tx]] w fun e w' => e = .returned (.tuple #[]) ∧ ScrR lo b 0 (csiS s 109 xs) g ah w w' := by
  have HS := Lib.hid h
  have HOK := Lib.hid ok
  have HA := Lib.hid ha
  have HNA := Lib.hid hna
  have HXR := Lib.hid hxr
  have HX8 := Lib.hid hx8
  have hw1 := ok.w1
  have hw2 := ok.w2
  have hh1 := ok.h1
  have hh2 := ok.h2
  have hx := ok.hx
  have hy := ok.hy
  have hcur := ok.cur
  have hcn := ok.cn
  have hlt := h.lt
  obtain ⟨n, hn⟩ : ∃ n, arg1 xs 0 = n := ⟨_, rfl⟩
  obtain ⟨A0, hA0⟩ : ∃ a, argA xs 0 1 = a := ⟨_, rfl⟩
  have hAb : -1 ≤ A0 ∧ A0 ≤ 9999 := by rw [← hA0]; exact argA_bd HXR.out (by omega) (by omega)
  have hm : max 1 A0 = (n : Int) := by rw [← hn, ← hA0]; unfold arg1; omega
  have hn1 : 1 ≤ n := by omega
  have hn2 : n ≤ 9999 := by omega
  have HN := Lib.hid hn
  have HA0 := Lib.hid hA0
  obtain ⟨p, hp⟩ : ∃ p, s.y * s.w = p := ⟨_, rfl⟩
  obtain ⟨mx, hmx⟩ : ∃ m, min s.x (s.w - 1) = m := ⟨_, rfl⟩
  obtain ⟨cr, hcr⟩ : ∃ c, curS s = c := ⟨_, rfl⟩
  obtain ⟨pn, hpn⟩ : ∃ q, (s.y + 1) * s.w = q := ⟨_, rfl⟩
  obtain ⟨nn, hnn⟩ : ∃ q, s.w * s.h = q := ⟨_, rfl⟩
  have hpi : (s.y : Int) * (s.w : Int) = (p : Int) := by rw [← hp]; exact (Int.natCast_mul _ _).symm
  have hpni : ((s.y : Int) + 1) * (s.w : Int) = (pn : Int) := by rw [← hpn]; exact (Int.natCast_mul (s.y + 1) s.w).symm
  have hnni : (s.w : Int) * (s.h : Int) = (nn : Int) := by rw [← hnn]; exact (Int.natCast_mul _ _).symm
  have hmi : min (s.x : Int) ((s.w : Int) - 1) = (mx : Int) := by omega
  have hcri : (p : Int) + (mx : Int) = (cr : Int) := by rw [← hcr, ← hp, ← hmx]; unfold curS; omega
  have hn240 : nn ≤ 240 := by rw [← hnn]; exact Nat.mul_le_mul hw2 hh2
  rw [hcr, hp, hpn, hnn] at hcur
  rw [hnn] at hcn
  obtain ⟨hc1, hc2, hc3⟩ := hcur
  have HCN := Lib.hid hcn
  have HP := Lib.hid hp
  have HMX := Lib.hid hmx
  have HCR := Lib.hid hcr
  have HPN := Lib.hid hpn
  have HNN := Lib.hid hnn
  have hwA : IntKind.i64.wrap ((s.w : Int) - 1) = (s.w : Int) - 1 := IntWalk.i64_in _ ⟨by omega, by omega⟩
  have hwB : IntKind.i64.wrap (p : Int) = (p : Int) := IntWalk.i64_in _ ⟨by omega, by omega⟩
  have hwC : IntKind.i64.wrap (cr : Int) = (cr : Int) := IntWalk.i64_in _ ⟨by omega, by omega⟩
  have hwD : IntKind.i64.wrap (pn : Int) = (pn : Int) := IntWalk.i64_in _ ⟨by omega, by omega⟩
  have hwE : IntKind.i64.wrap (nn : Int) = (nn : Int) := IntWalk.i64_in _ ⟨by omega, by omega⟩
  have hwF : IntKind.i64.wrap ((s.y : Int) + 1) = (s.y : Int) + 1 := IntWalk.i64_in _ ⟨by omega, by omega⟩
  have hwG : IntKind.i64.wrap ((cr : Int) + 1) = (cr : Int) + 1 := IntWalk.i64_in _ ⟨by omega, by omega⟩
  obtain ⟨ln, hln⟩ : ∃ l, xs.length = l := ⟨_, rfl⟩
  have HLN := Lib.hid hln
  have HCALL : ∀ (i : Nat) (d : Int) (W : World), i ≤ 7 → Sl intE 1 W aa xs → Calls Try.prog 84 #[.agg #[.int .i64 kd, .int .i64 109, .bool false, .slice aa ln ca, .string tx], .int .i64 i, .int .i64 d] W fun e w' => e = .returned (.int .i64 (argA xs i d)) ∧ Below W.heap.size W w' := fun i d W hi hW => by
    rw [← hln]
    exact l03ArgG_c kd 109 false tx xs aa ca i d W hW hi hx8
  rw [hln]
  clear h ok ha hna hxr hx8 hn hA0 hp hmx hcr hpn hnn hcn hln
  go_enter Try.func70, Try.ntmps70
  go_wp2_with fail
  refine (HCALL 0 1 _ (by omega) (HA.out.alloc _)).mono ?_
  rintro e v0 ⟨rfl, hb0⟩
  rw [HA0.out]
  have HB0 : Hid (Below w.heap.size w v0) := Lib.hid (((Below.refl w.heap.size w).alloc (Nat.le_refl _) _).trans (hb0.mono (by simp)))
  have hz0 := HB0.out.size
  have q_l : w.heap.size < v0.heap.size := by have := hb0.size; simp at this; omega
  have q_0 : v0.cell? ⟨w.heap.size, 0, none⟩ = some (.int .i64 kd) := kC hb0 (by simp) (by simp [go_sem])
  have q_1 : v0.cell? ⟨w.heap.size, 1, none⟩ = some (.int .i64 109) := kC hb0 (by simp) (by simp [go_sem])
  have q_2 : v0.cell? ⟨w.heap.size, 2, none⟩ = some (.bool false) := kC hb0 (by simp) (by simp [go_sem])
  have q_3 : v0.cell? ⟨w.heap.size, 3, none⟩ = some (.slice aa ln ca) := kC hb0 (by simp) (by simp [go_sem])
  have q_4 : v0.cell? ⟨w.heap.size, 4, none⟩ = some (.string tx) := kC hb0 (by simp) (by simp [go_sem])
  clear hb0
  have q_b : ¬ w.heap.size = b := by omega
  have HA_nb : ∀ k ∈ blkOf aa, ¬ k = b := fun k hk => (HNA.out k hk).1
  have Hv0 := Lib.hid (HS.out.below HB0.out)
  have HA2 := Lib.hid (HA.out.keep HB0.out)
  have HUv0 : Hid (Upd b 0 (0 + 12) (fun k => k = g ∨ k ∈ blkOf ah) w v0) := Lib.hid (Upd.refl'.below HB0.out HS.out.lt)
  have HA2_nb := HA_nb
  have k_0 := Hv0.out.e0
  have k_1 := Hv0.out.e1
  have k_2 := Hv0.out.e2
  have k_3 := Hv0.out.e3
  have k_4 := Hv0.out.e4
  have k_5 := Hv0.out.e5
  have k_6 := Hv0.out.e6
  have k_7 := Hv0.out.e7
  have k_8 := Hv0.out.e8
  have k_9 := Hv0.out.e9
  have k_10 := Hv0.out.e10
  have k_11 := Hv0.out.e11
  have k_f := Hv0.out.fz
  have k_l := Hv0.out.lt
  go_upto_region 4 with fail
  have hSc1 := And.intro k_0 (And.intro k_2 k_3)
  refine wp_region_G (fun w' => w'.cell? ⟨b, 0, none⟩ = some (.int .i64 (s.w : Int)) ∧ w'.cell? ⟨b, 2, none⟩ = some (.int .i64 (s.x : Int)) ∧ w'.cell? ⟨b, 3, none⟩ = some (.int .i64 (s.y : Int))) (fun i => false) (by kernel_rfl) hSc1 ?_
  refine tW ?_ 0 rfl ?_ ?_; rotate_left
  · intro w' hSw; go_simp; try rfl
  try simp only [Act.put,j1,j2,j3,j4,j5,j6]
  refine tW ?_ 1 rfl ?_ ?_; rotate_left
  · intro w' hSw; go_simp; try rfl
  try simp only [Act.put,j1,j2,j3,j4,j5,j6]
  refine tW ?_ 2 rfl ?_ ?_; rotate_left
  · intro w' hSw; go_simp; try rfl
  try simp only [Act.put,j1,j2,j3,j4,j5,j6]
  refine tL ?_ 3 rfl hSc1 ?_ ?_; rotate_left
  · intro w' hSw; obtain ⟨s0, s1, s2⟩ := hSw; go_simp; try rfl
  try simp only [Act.put,j1,j2,j3,j4,j5,j6]
  refine tW ?_ 4 rfl ?_ ?_; rotate_left
  · intro w' hSw; go_simp; try rfl
  try simp only [Act.put,j1,j2,j3,j4,j5,j6]
  refine tW ?_ 5 rfl ?_ ?_; rotate_left
  · intro w' hSw; go_simp; try rfl
  try simp only [Act.put,j1,j2,j3,j4,j5,j6]
  refine tW ?_ 6 rfl ?_ ?_; rotate_left
  · intro w' hSw; go_simp; try rfl
  try simp only [Act.put,j1,j2,j3,j4,j5,j6]
  refine tL ?_ 7 rfl hSc1 ?_ ?_; rotate_left
  · intro w' hSw; obtain ⟨s0, s1, s2⟩ := hSw; go_simp; try rfl
  try simp only [Act.put,j1,j2,j3,j4,j5,j6]
  refine tW ?_ 8 rfl ?_ ?_; rotate_left
  · intro w' hSw; go_simp; try rfl
  try simp only [Act.put,j1,j2,j3,j4,j5,j6]
  refine tW ?_ 9 rfl ?_ ?_; rotate_left
  · intro w' hSw; go_simp; try rfl
  try simp only [Act.put,j1,j2,j3,j4,j5,j6]
  refine tW ?_ 10 rfl ?_ ?_; rotate_left
  · intro w' hSw; go_simp; try rfl
  try simp only [Act.put,j1,j2,j3,j4,j5,j6]
  refine tW ?_ 11 rfl ?_ ?_; rotate_left
  · intro w' hSw; go_simp; try rfl
  try simp only [Act.put,j1,j2,j3,j4,j5,j6]
  refine tL ?_ 12 rfl hSc1 ?_ ?_; rotate_left
  · intro w' hSw; obtain ⟨s0, s1, s2⟩ := hSw; go_simp; try rfl
  try simp only [Act.put,j1,j2,j3,j4,j5,j6]
  refine tW ?_ 13 rfl ?_ ?_; rotate_left
  · intro w' hSw; go_simp; try rfl
  try simp only [Act.put,j1,j2,j3,j4,j5,j6]
  refine tW ?_ 14 rfl ?_ ?_; rotate_left
  · intro w' hSw; go_simp; try rfl
  try simp only [Act.put,j1,j2,j3,j4,j5,j6]
  refine tW ?_ 15 rfl ?_ ?_; rotate_left
  · intro w' hSw; go_simp; try rfl
  try simp only [Act.put,j1,j2,j3,j4,j5,j6]
  refine tL ?_ 16 rfl hSc1 ?_ ?_; rotate_left
  · intro w' hSw; obtain ⟨s0, s1, s2⟩ := hSw; go_simp; try rfl
  try simp only [Act.put,j1,j2,j3,j4,j5,j6]
  refine tW ?_ 17 rfl ?_ ?_; rotate_left
  · intro w' hSw; go_simp; try rfl
  try simp only [Act.put,j1,j2,j3,j4,j5,j6]
  refine tW ?_ 18 rfl ?_ ?_; rotate_left
  · intro w' hSw; go_simp; try rfl
  try simp only [Act.put,j1,j2,j3,j4,j5,j6]
  refine tW ?_ 19 rfl ?_ ?_; rotate_left
  · intro w' hSw; go_simp; try rfl
  try simp only [Act.put,j1,j2,j3,j4,j5,j6]
  refine tW ?_ 20 rfl ?_ ?_; rotate_left
  · intro w' hSw; go_simp; try rfl
  try simp only [Act.put,j1,j2,j3,j4,j5,j6]
  refine wpAnyG_done (by kernel_rfl) ?_ _
  obtain ⟨v1, hv1⟩ : ∃ x, v0.drew = x := ⟨_, rfl⟩
  have HBv1 : Hid (Below v0.heap.size v0 v1) := Lib.hid (by rw [← hv1]; exact (Below.refl _ _).drew)
  rw [hv1]
  have hzv1 := HBv1.out.size
  have Hv1 := Lib.hid (Hv0.out.below HBv1.out)
  have HUv1 : Hid (Upd b 0 (0 + 12) (fun k => k = g ∨ k ∈ blkOf ah) w v1) := Lib.hid (HUv0.out.below HBv1.out Hv0.out.lt)
  have qn_0 := kC HBv1.out q_l q_0
  have qn_1 := kC HBv1.out q_l q_1
  have qn_2 := kC HBv1.out q_l q_2
  have qn_3 := kC HBv1.out q_l q_3
  have qn_4 := kC HBv1.out q_l q_4
  have qn_l := Nat.lt_of_lt_of_le q_l HBv1.out.size
  clear q_0 q_1 q_2 q_3 q_4 q_l
  have HA2n := Lib.hid (HA2.out.keep HBv1.out)
  clear k_f k_l k_0 k_1 k_2 k_3 k_4 k_5 k_6 k_7 k_8 k_9 k_10 k_11 hv1 hSc1
  have k_0 := Hv1.out.e0
  have k_1 := Hv1.out.e1
  have k_2 := Hv1.out.e2
  have k_3 := Hv1.out.e3
  have k_4 := Hv1.out.e4
  have k_5 := Hv1.out.e5
  have k_6 := Hv1.out.e6
  have k_7 := Hv1.out.e7
  have k_8 := Hv1.out.e8
  have k_9 := Hv1.out.e9
  have k_10 := Hv1.out.e10
  have k_11 := Hv1.out.e11
  have k_f := Hv1.out.fz
  have k_l := Hv1.out.lt
  go_wp2_with fail
  go_loopw [7] (fun iv wi => ∃ i : Nat, i ≤ ln ∧ iv = .int .i64 i ∧ Hid (ScrR lo b 0 { s with look := (xs.take i).foldl lookN s.look } g ah v1 wi)) (fun iv _ => ln - (intOf iv).toNat)
  case atStart => exact ⟨0, Nat.zero_le _, rfl, Lib.hid (.mk Hv1.out Upd.refl)⟩
  case round =>
    obtain ⟨i, hi, rfl, HI⟩ := hrel
    have hln8 : ln ≤ 8 := by rw [← HLN.out]; exact HX8.out
    obtain ⟨g1, cc1, ah1, dh1, ha, hu, hg, hh⟩ := HI.out
    have HC := Lib.hid hu.ch
    have HX := Lib.hid ha
    have HU := Lib.hid hu
    have HG := Lib.hid hg
    have HH := Lib.hid hh
    have hzr := hu.size
    have hwq : ¬ (w.heap.size = b ∨ w.heap.size = g ∨ w.heap.size ∈ blkOf ah) := by
      rintro (h | h | h)
      · exact q_b h
      · have := HS.out.glt.2; omega
      · have := (HS.out.win.blk _ h).2; omega
    have y_3 : wr.cell? ⟨w.heap.size, 3, none⟩ = some (.slice aa ln ca) := (HC.out.cell (p := ⟨w.heap.size, 3, none⟩) qn_l hwq).trans qn_3
    have HAr : Hid (Sl intE 1 wr aa xs) := Lib.hid (Sl.ch HA2n.out HC.out (fun k hk => by
      have h := HNA.out k hk
      rintro (h1 | h1 | h1)
      · exact h.1 h1
      · exact h.2.1 h1
      · exact h.2.2 h1))
    clear ha hu hg hh
    by_cases hlt : i < ln
    · have hlt' : (i : Int) < (ln : Int) := by omega
      have hix : i < xs.length := by rw [HLN.out]; exact hlt
      obtain ⟨b1, o1, hae, hb1, hc1⟩ := HAr.out.at hix
      subst hae
      obtain ⟨x, hxx⟩ : ∃ x, xs[i] = x := ⟨_, rfl⟩
      have c1 := hc1 i hix 0 (by omega)
      rw [hxx] at c1
      simp only [intE, Nat.mul_one, Nat.add_zero, List.getElem?_cons_zero] at c1
      have hxb := HXR.out x (by rw [← hxx]; exact List.getElem_mem hix)
      have HTK : Hid ((xs.take (i + 1)).foldl lookN s.look = lookN ((xs.take i).foldl lookN s.look) (max 0 x)) := Lib.hid (by
        rw [List.take_succ_eq_append_getElem hix, List.foldl_append, hxx]
        exact (lookN_max _ _).symm)
      obtain ⟨m, hm⟩ : ∃ m, max 0 x = m := ⟨_, rfl⟩
      have hm2 : 0 ≤ m ∧ m ≤ 9999 := by omega
      rw [hm] at HTK
      clear hc1 hxx hix
      go_wp2_with fail
      refine (look_c lo b _ g1 cc1 ah1 dh1 _ m HX.out (looksOK HOK.out _) (by omega) hm2).mono ?_
      rintro e x1 ⟨rfl, hr⟩
      have HR := Lib.hid hr
      clear hr
      go_wp2_with fail
      go_roundw
      case rel =>
        refine ⟨i + 1, by omega, by go_num, Lib.hid ?_⟩
        rw [HTK.out]
        exact ScrR.trans HX.out HU.out HG.out HH.out HR.out
      case measure => simp [intOf]; omega
    · obtain rfl : i = ln := by omega
      have htk : xs.take i = xs := List.take_of_length_le (by rw [HLN.out]; exact Nat.le_refl _)
      have HTK := Lib.hid htk
      clear htk
      go_wp2_with fail
      first | refine bodyPost_end (v := .tuple #[]) (by simp [results, Try.results70]) rfl ?_ | refine bodyPost_ret (v := .tuple #[]) (by simp [results, Try.results70]) rfl ?_
      refine ⟨rfl, ?_⟩
      unfold csiS
      rw [if_neg (by decide), if_neg (by decide), if_neg (by decide), if_neg (by decide), if_neg (by decide), if_neg (by decide), if_neg (by decide), if_neg (by decide), if_neg (by decide), if_neg (by decide), if_neg (by decide), if_pos (by decide)]
      have h9 := HI.out
      rw [HTK.out] at h9
      exact ScrR.trans Hv1.out HUv1.out (.inl rfl) (fun _ h => .inl h) h9
theorem csi114_c (lo b : Nat) (s : Scr) (g cc : Nat) (ah : Option Addr) (dh : Nat) (w : World) (kd : Int) (xs : List Int) (aa : Option Addr) (ca : Nat) (tx : ByteArray) (h : ScrAt lo b 0 s g cc ah dh w) (ok : ScrOK s) (hlo : lo ≤ w.heap.size) (ha : Sl intE 1 w aa xs) (hna : ∀ k ∈ blkOf aa, k ≠ b ∧ k ≠ g ∧ k ∉ blkOf ah) (hx8 : xs.length ≤ 8) (hxr : ∀ x ∈ xs, -1 ≤ x ∧ x ≤ 9999) :
    Calls Try.prog 70 #[.pointer (some ⟨b, 0, none⟩), .agg #[.int .i64 kd, .int .i64 114, .bool false, .slice aa xs.length ca, .string tx]] w fun e w' => e = .returned (.tuple #[]) ∧ ScrR lo b 0 (csiS s 114 xs) g ah w w' := by
  have HS := Lib.hid h
  have HOK := Lib.hid ok
  have HA := Lib.hid ha
  have HNA := Lib.hid hna
  have HXR := Lib.hid hxr
  have HX8 := Lib.hid hx8
  have hw1 := ok.w1
  have hw2 := ok.w2
  have hh1 := ok.h1
  have hh2 := ok.h2
  have hx := ok.hx
  have hy := ok.hy
  have hcur := ok.cur
  have hcn := ok.cn
  have hlt := h.lt
  obtain ⟨n, hn⟩ : ∃ n, arg1 xs 0 = n := ⟨_, rfl⟩
  obtain ⟨A0, hA0⟩ : ∃ a, argA xs 0 1 = a := ⟨_, rfl⟩
  have hAb : -1 ≤ A0 ∧ A0 ≤ 9999 := by rw [← hA0]; exact argA_bd HXR.out (by omega) (by omega)
  have hm : max 1 A0 = (n : Int) := by rw [← hn, ← hA0]; unfold arg1; omega
  have hn1 : 1 ≤ n := by omega
  have hn2 : n ≤ 9999 := by omega
  have HN := Lib.hid hn
  have HA0 := Lib.hid hA0
  obtain ⟨p, hp⟩ : ∃ p, s.y * s.w = p := ⟨_, rfl⟩
  obtain ⟨mx, hmx⟩ : ∃ m, min s.x (s.w - 1) = m := ⟨_, rfl⟩
  obtain ⟨cr, hcr⟩ : ∃ c, curS s = c := ⟨_, rfl⟩
  obtain ⟨pn, hpn⟩ : ∃ q, (s.y + 1) * s.w = q := ⟨_, rfl⟩
  obtain ⟨nn, hnn⟩ : ∃ q, s.w * s.h = q := ⟨_, rfl⟩
  have hpi : (s.y : Int) * (s.w : Int) = (p : Int) := by rw [← hp]; exact (Int.natCast_mul _ _).symm
  have hpni : ((s.y : Int) + 1) * (s.w : Int) = (pn : Int) := by rw [← hpn]; exact (Int.natCast_mul (s.y + 1) s.w).symm
  have hnni : (s.w : Int) * (s.h : Int) = (nn : Int) := by rw [← hnn]; exact (Int.natCast_mul _ _).symm
  have hmi : min (s.x : Int) ((s.w : Int) - 1) = (mx : Int) := by omega
  have hcri : (p : Int) + (mx : Int) = (cr : Int) := by rw [← hcr, ← hp, ← hmx]; unfold curS; omega
  have hn240 : nn ≤ 240 := by rw [← hnn]; exact Nat.mul_le_mul hw2 hh2
  rw [hcr, hp, hpn, hnn] at hcur
  rw [hnn] at hcn
  obtain ⟨hc1, hc2, hc3⟩ := hcur
  have HCN := Lib.hid hcn
  have HP := Lib.hid hp
  have HMX := Lib.hid hmx
  have HCR := Lib.hid hcr
  have HPN := Lib.hid hpn
  have HNN := Lib.hid hnn
  have hwA : IntKind.i64.wrap ((s.w : Int) - 1) = (s.w : Int) - 1 := IntWalk.i64_in _ ⟨by omega, by omega⟩
  have hwB : IntKind.i64.wrap (p : Int) = (p : Int) := IntWalk.i64_in _ ⟨by omega, by omega⟩
  have hwC : IntKind.i64.wrap (cr : Int) = (cr : Int) := IntWalk.i64_in _ ⟨by omega, by omega⟩
  have hwD : IntKind.i64.wrap (pn : Int) = (pn : Int) := IntWalk.i64_in _ ⟨by omega, by omega⟩
  have hwE : IntKind.i64.wrap (nn : Int) = (nn : Int) := IntWalk.i64_in _ ⟨by omega, by omega⟩
  have hwF : IntKind.i64.wrap ((s.y : Int) + 1) = (s.y : Int) + 1 := IntWalk.i64_in _ ⟨by omega, by omega⟩
  have hwG : IntKind.i64.wrap ((cr : Int) + 1) = (cr : Int) + 1 := IntWalk.i64_in _ ⟨by omega, by omega⟩
  obtain ⟨ln, hln⟩ : ∃ l, xs.length = l := ⟨_, rfl⟩
  have HLN := Lib.hid hln
  have HCALL : ∀ (i : Nat) (d : Int) (W : World), i ≤ 7 → Sl intE 1 W aa xs → Calls Try.prog 84 #[.agg #[.int .i64 kd, .int .i64 114, .bool false, .slice aa ln ca, .string tx], .int .i64 i, .int .i64 d] W fun e w' => e = .returned (.int .i64 (argA xs i d)) ∧ Below W.heap.size W w' := fun i d W hi hW => by
    rw [← hln]
    exact l03ArgG_c kd 114 false tx xs aa ca i d W hW hi hx8
  rw [hln]
  clear h ok ha hna hxr hx8 hn hA0 hp hmx hcr hpn hnn hcn hln
  go_enter Try.func70, Try.ntmps70
  go_wp2_with fail
  refine (HCALL 0 1 _ (by omega) (HA.out.alloc _)).mono ?_
  rintro e v0 ⟨rfl, hb0⟩
  rw [HA0.out]
  have HB0 : Hid (Below w.heap.size w v0) := Lib.hid (((Below.refl w.heap.size w).alloc (Nat.le_refl _) _).trans (hb0.mono (by simp)))
  have hz0 := HB0.out.size
  have q_l : w.heap.size < v0.heap.size := by have := hb0.size; simp at this; omega
  have q_0 : v0.cell? ⟨w.heap.size, 0, none⟩ = some (.int .i64 kd) := kC hb0 (by simp) (by simp [go_sem])
  have q_1 : v0.cell? ⟨w.heap.size, 1, none⟩ = some (.int .i64 114) := kC hb0 (by simp) (by simp [go_sem])
  have q_2 : v0.cell? ⟨w.heap.size, 2, none⟩ = some (.bool false) := kC hb0 (by simp) (by simp [go_sem])
  have q_3 : v0.cell? ⟨w.heap.size, 3, none⟩ = some (.slice aa ln ca) := kC hb0 (by simp) (by simp [go_sem])
  have q_4 : v0.cell? ⟨w.heap.size, 4, none⟩ = some (.string tx) := kC hb0 (by simp) (by simp [go_sem])
  clear hb0
  have q_b : ¬ w.heap.size = b := by omega
  have HA_nb : ∀ k ∈ blkOf aa, ¬ k = b := fun k hk => (HNA.out k hk).1
  have Hv0 := Lib.hid (HS.out.below HB0.out)
  have HA2 := Lib.hid (HA.out.keep HB0.out)
  have HUv0 : Hid (Upd b 0 (0 + 12) (fun k => k = g ∨ k ∈ blkOf ah) w v0) := Lib.hid (Upd.refl'.below HB0.out HS.out.lt)
  have HA2_nb := HA_nb
  have k_0 := Hv0.out.e0
  have k_1 := Hv0.out.e1
  have k_2 := Hv0.out.e2
  have k_3 := Hv0.out.e3
  have k_4 := Hv0.out.e4
  have k_5 := Hv0.out.e5
  have k_6 := Hv0.out.e6
  have k_7 := Hv0.out.e7
  have k_8 := Hv0.out.e8
  have k_9 := Hv0.out.e9
  have k_10 := Hv0.out.e10
  have k_11 := Hv0.out.e11
  have k_f := Hv0.out.fz
  have k_l := Hv0.out.lt
  go_upto_region 4 with fail
  have hSc1 := And.intro k_0 (And.intro k_2 k_3)
  refine wp_region_G (fun w' => w'.cell? ⟨b, 0, none⟩ = some (.int .i64 (s.w : Int)) ∧ w'.cell? ⟨b, 2, none⟩ = some (.int .i64 (s.x : Int)) ∧ w'.cell? ⟨b, 3, none⟩ = some (.int .i64 (s.y : Int))) (fun i => false) (by kernel_rfl) hSc1 ?_
  refine tW ?_ 0 rfl ?_ ?_; rotate_left
  · intro w' hSw; go_simp; try rfl
  try simp only [Act.put,j1,j2,j3,j4,j5,j6]
  refine tW ?_ 1 rfl ?_ ?_; rotate_left
  · intro w' hSw; go_simp; try rfl
  try simp only [Act.put,j1,j2,j3,j4,j5,j6]
  refine tW ?_ 2 rfl ?_ ?_; rotate_left
  · intro w' hSw; go_simp; try rfl
  try simp only [Act.put,j1,j2,j3,j4,j5,j6]
  refine tL ?_ 3 rfl hSc1 ?_ ?_; rotate_left
  · intro w' hSw; obtain ⟨s0, s1, s2⟩ := hSw; go_simp; try rfl
  try simp only [Act.put,j1,j2,j3,j4,j5,j6]
  refine tW ?_ 4 rfl ?_ ?_; rotate_left
  · intro w' hSw; go_simp; try rfl
  try simp only [Act.put,j1,j2,j3,j4,j5,j6]
  refine tW ?_ 5 rfl ?_ ?_; rotate_left
  · intro w' hSw; go_simp; try rfl
  try simp only [Act.put,j1,j2,j3,j4,j5,j6]
  refine tW ?_ 6 rfl ?_ ?_; rotate_left
  · intro w' hSw; go_simp; try rfl
  try simp only [Act.put,j1,j2,j3,j4,j5,j6]
  refine tL ?_ 7 rfl hSc1 ?_ ?_; rotate_left
  · intro w' hSw; obtain ⟨s0, s1, s2⟩ := hSw; go_simp; try rfl
  try simp only [Act.put,j1,j2,j3,j4,j5,j6]
  refine tW ?_ 8 rfl ?_ ?_; rotate_left
  · intro w' hSw; go_simp; try rfl
  try simp only [Act.put,j1,j2,j3,j4,j5,j6]
  refine tW ?_ 9 rfl ?_ ?_; rotate_left
  · intro w' hSw; go_simp; try rfl
  try simp only [Act.put,j1,j2,j3,j4,j5,j6]
  refine tW ?_ 10 rfl ?_ ?_; rotate_left
  · intro w' hSw; go_simp; try rfl
  try simp only [Act.put,j1,j2,j3,j4,j5,j6]
  refine tW ?_ 11 rfl ?_ ?_; rotate_left
  · intro w' hSw; go_simp; try rfl
  try simp only [Act.put,j1,j2,j3,j4,j5,j6]
  refine tL ?_ 12 rfl hSc1 ?_ ?_; rotate_left
  · intro w' hSw; obtain ⟨s0, s1, s2⟩ := hSw; go_simp; try rfl
  try simp only [Act.put,j1,j2,j3,j4,j5,j6]
  refine tW ?_ 13 rfl ?_ ?_; rotate_left
  · intro w' hSw; go_simp; try rfl
  try simp only [Act.put,j1,j2,j3,j4,j5,j6]
  refine tW ?_ 14 rfl ?_ ?_; rotate_left
  · intro w' hSw; go_simp; try rfl
  try simp only [Act.put,j1,j2,j3,j4,j5,j6]
  refine tW ?_ 15 rfl ?_ ?_; rotate_left
  · intro w' hSw; go_simp; try rfl
  try simp only [Act.put,j1,j2,j3,j4,j5,j6]
  refine tL ?_ 16 rfl hSc1 ?_ ?_; rotate_left
  · intro w' hSw; obtain ⟨s0, s1, s2⟩ := hSw; go_simp; try rfl
  try simp only [Act.put,j1,j2,j3,j4,j5,j6]
  refine tW ?_ 17 rfl ?_ ?_; rotate_left
  · intro w' hSw; go_simp; try rfl
  try simp only [Act.put,j1,j2,j3,j4,j5,j6]
  refine tW ?_ 18 rfl ?_ ?_; rotate_left
  · intro w' hSw; go_simp; try rfl
  try simp only [Act.put,j1,j2,j3,j4,j5,j6]
  refine tW ?_ 19 rfl ?_ ?_; rotate_left
  · intro w' hSw; go_simp; try rfl
  try simp only [Act.put,j1,j2,j3,j4,j5,j6]
  refine tW ?_ 20 rfl ?_ ?_; rotate_left
  · intro w' hSw; go_simp; try rfl
  try simp only [Act.put,j1,j2,j3,j4,j5,j6]
  refine wpAnyG_done (by kernel_rfl) ?_ _
  obtain ⟨v1, hv1⟩ : ∃ x, v0.drew = x := ⟨_, rfl⟩
  have HBv1 : Hid (Below v0.heap.size v0 v1) := Lib.hid (by rw [← hv1]; exact (Below.refl _ _).drew)
  rw [hv1]
  have hzv1 := HBv1.out.size
  have Hv1 := Lib.hid (Hv0.out.below HBv1.out)
  have HUv1 : Hid (Upd b 0 (0 + 12) (fun k => k = g ∨ k ∈ blkOf ah) w v1) := Lib.hid (HUv0.out.below HBv1.out Hv0.out.lt)
  have qn_0 := kC HBv1.out q_l q_0
  have qn_1 := kC HBv1.out q_l q_1
  have qn_2 := kC HBv1.out q_l q_2
  have qn_3 := kC HBv1.out q_l q_3
  have qn_4 := kC HBv1.out q_l q_4
  have qn_l := Nat.lt_of_lt_of_le q_l HBv1.out.size
  clear q_0 q_1 q_2 q_3 q_4 q_l
  have HA2n := Lib.hid (HA2.out.keep HBv1.out)
  clear k_f k_l k_0 k_1 k_2 k_3 k_4 k_5 k_6 k_7 k_8 k_9 k_10 k_11 hv1 hSc1
  have k_0 := Hv1.out.e0
  have k_1 := Hv1.out.e1
  have k_2 := Hv1.out.e2
  have k_3 := Hv1.out.e3
  have k_4 := Hv1.out.e4
  have k_5 := Hv1.out.e5
  have k_6 := Hv1.out.e6
  have k_7 := Hv1.out.e7
  have k_8 := Hv1.out.e8
  have k_9 := Hv1.out.e9
  have k_10 := Hv1.out.e10
  have k_11 := Hv1.out.e11
  have k_f := Hv1.out.fz
  have k_l := Hv1.out.lt
  go_wp2_with fail
  refine (HCALL 0 1 _ (by omega) HA2n.out).mono ?_
  rw [HA0.out]
  rintro e v2 ⟨rfl, hbv2⟩
  have HBv2 := Lib.hid hbv2
  have hzv2 := HBv2.out.size
  have Hv2 := Lib.hid (Hv1.out.below HBv2.out)
  have HUv2 : Hid (Upd b 0 (0 + 12) (fun k => k = g ∨ k ∈ blkOf ah) w v2) := Lib.hid (HUv1.out.below HBv2.out Hv1.out.lt)
  have qnn_0 := kC HBv2.out qn_l qn_0
  have qnn_1 := kC HBv2.out qn_l qn_1
  have qnn_2 := kC HBv2.out qn_l qn_2
  have qnn_3 := kC HBv2.out qn_l qn_3
  have qnn_4 := kC HBv2.out qn_l qn_4
  have qnn_l := Nat.lt_of_lt_of_le qn_l HBv2.out.size
  clear qn_0 qn_1 qn_2 qn_3 qn_4 qn_l
  have HA2nn := Lib.hid (HA2n.out.keep HBv2.out)
  clear k_f k_l k_0 k_1 k_2 k_3 k_4 k_5 k_6 k_7 k_8 k_9 k_10 k_11 hbv2
  have k_0 := Hv2.out.e0
  have k_1 := Hv2.out.e1
  have k_2 := Hv2.out.e2
  have k_3 := Hv2.out.e3
  have k_4 := Hv2.out.e4
  have k_5 := Hv2.out.e5
  have k_6 := Hv2.out.e6
  have k_7 := Hv2.out.e7
  have k_8 := Hv2.out.e8
  have k_9 := Hv2.out.e9
  have k_10 := Hv2.out.e10
  have k_11 := Hv2.out.e11
  have k_f := Hv2.out.fz
  have k_l := Hv2.out.lt
  have hwK : IntKind.i64.wrap ((n : Int) - 1) = (n : Int) - 1 := IntWalk.i64_in _ ⟨by omega, by omega⟩
  obtain ⟨A1, hA1⟩ : ∃ a, argA xs 1 (s.h : Int) = a := ⟨_, rfl⟩
  have hA1b : -1 ≤ A1 ∧ A1 ≤ 9999 := by rw [← hA1]; exact argA_bd HXR.out (by omega) (by omega)
  have hA1c : 0 ≤ A1 := by rw [← hA1]; unfold argA; split <;> (try split) <;> omega
  obtain ⟨l1, hl1⟩ : ∃ l, min s.h A1.toNat = l := ⟨_, rfl⟩
  have hm1 : min (s.h : Int) A1 = (l1 : Int) := by omega
  have hl10 : l1 ≤ 10 := by omega
  have hwL : IntKind.i64.wrap ((l1 : Int) - 1) = (l1 : Int) - 1 := IntWalk.i64_in _ ⟨by omega, by omega⟩
  have HA1 := Lib.hid hA1
  have HL1 := Lib.hid hl1
  clear hA1 hl1
  go_upto_region 53 with fail
  have hSc2 := And.intro k_1 (And.intro qnn_0 (And.intro qnn_1 (And.intro qnn_2 (And.intro qnn_3 qnn_4))))
  refine wp_region_G (fun w' => w'.cell? ⟨b, 1, none⟩ = some (.int .i64 (s.h : Int)) ∧ w'.cell? ⟨w.heap.size, 0, none⟩ = some (.int .i64 kd) ∧ w'.cell? ⟨w.heap.size, 1, none⟩ = some (.int .i64 114) ∧ w'.cell? ⟨w.heap.size, 2, none⟩ = some (.bool false) ∧ w'.cell? ⟨w.heap.size, 3, none⟩ = some (.slice aa ln ca) ∧ w'.cell? ⟨w.heap.size, 4, none⟩ = some (.string tx)) (fun i => false) (by kernel_rfl) hSc2 ?_
  refine tW ?_ 0 rfl ?_ ?_; rotate_left
  · intro w' hSw; go_simp; try rfl
  try simp only [Act.put,j1,j2,j3,j4,j5,j6]
  refine tW ?_ 1 rfl ?_ ?_; rotate_left
  · intro w' hSw; go_simp; try rfl
  try simp only [Act.put,j1,j2,j3,j4,j5,j6]
  refine tW ?_ 2 rfl ?_ ?_; rotate_left
  · intro w' hSw; go_simp; try rfl
  try simp only [Act.put,j1,j2,j3,j4,j5,j6]
  refine tL ?_ 3 rfl hSc2 ?_ ?_; rotate_left
  · intro w' hSw; obtain ⟨s0, s1, s2, s3, s4, s5⟩ := hSw; go_simp; try rfl
  try simp only [Act.put,j1,j2,j3,j4,j5,j6]
  refine tL ?_ 4 rfl hSc2 ?_ ?_; rotate_left
  · intro w' hSw; obtain ⟨s0, s1, s2, s3, s4, s5⟩ := hSw; go_simp; try rfl
  try simp only [Act.put,j1,j2,j3,j4,j5,j6]
  refine tW ?_ 5 rfl ?_ ?_; rotate_left
  · intro w' hSw; go_simp; try rfl
  try simp only [Act.put,j1,j2,j3,j4,j5,j6]
  refine tW ?_ 6 rfl ?_ ?_; rotate_left
  · intro w' hSw; go_simp; try rfl
  try simp only [Act.put,j1,j2,j3,j4,j5,j6]
  refine tW ?_ 7 rfl ?_ ?_; rotate_left
  · intro w' hSw; go_simp; try rfl
  try simp only [Act.put,j1,j2,j3,j4,j5,j6]
  refine tL ?_ 8 rfl hSc2 ?_ ?_; rotate_left
  · intro w' hSw; obtain ⟨s0, s1, s2, s3, s4, s5⟩ := hSw; go_simp; try rfl
  try simp only [Act.put,j1,j2,j3,j4,j5,j6]
  refine wpAnyG_one (i := 9) (by kernel_rfl) rfl hSc2 (fun K' hK => ?_)
  simp only [j1,j2,j3]
  go_simp
  refine (HCALL 1 s.h _ (by omega) (HA2nn.out.keep ((Below.refl _ _).drew))).mono ?_
  rintro e x1 ⟨rfl, hb1⟩
  rw [HA1.out]
  have HB1 : Hid (Below v2.heap.size v2 x1) := Lib.hid (((Below.refl _ _).drew).trans hb1)
  have HX1 := Lib.hid (Hv2.out.below HB1.out)
  have HU1 : Hid (Upd b 0 (0 + 12) (fun k => k = g ∨ k ∈ blkOf ah) w x1) := Lib.hid (HUv2.out.below HB1.out Hv2.out.lt)
  have hSx : x1.cell? ⟨b, 1, none⟩ = some (.int .i64 (s.h : Int)) ∧ x1.cell? ⟨w.heap.size, 0, none⟩ = some (.int .i64 kd) ∧ x1.cell? ⟨w.heap.size, 1, none⟩ = some (.int .i64 114) ∧ x1.cell? ⟨w.heap.size, 2, none⟩ = some (.bool false) ∧ x1.cell? ⟨w.heap.size, 3, none⟩ = some (.slice aa ln ca) ∧ x1.cell? ⟨w.heap.size, 4, none⟩ = some (.string tx) := ⟨HX1.out.c1, (HB1.out.cell (p := ⟨w.heap.size, 0, none⟩) qnn_l).trans qnn_0, (HB1.out.cell (p := ⟨w.heap.size, 1, none⟩) qnn_l).trans qnn_1, (HB1.out.cell (p := ⟨w.heap.size, 2, none⟩) qnn_l).trans qnn_2, (HB1.out.cell (p := ⟨w.heap.size, 3, none⟩) qnn_l).trans qnn_3, (HB1.out.cell (p := ⟨w.heap.size, 4, none⟩) qnn_l).trans qnn_4⟩
  clear hb1
  have e_2 := HX1.out.c2
  have e_3 := HX1.out.c3
  have e_5 := HX1.out.c5
  have e_6 := HX1.out.c6
  have e_f := HX1.out.fz
  have e_l := HX1.out.lt
  refine hK.out _ _ (Or.inr hSx) ?_
  clear hK K'
  try simp only [Act.put,j1,j2,j3,j4,j5,j6]
  refine tW ?_ 10 rfl ?_ ?_; rotate_left
  · intro w' hSw; go_simp; try rfl
  try simp only [Act.put,j1,j2,j3,j4,j5,j6]
  refine tW ?_ 11 rfl ?_ ?_; rotate_left
  · intro w' hSw; go_simp; try rfl
  try simp only [Act.put,j1,j2,j3,j4,j5,j6]
  refine tW ?_ 12 rfl ?_ ?_; rotate_left
  · intro w' hSw; go_simp; try rfl
  try simp only [Act.put,j1,j2,j3,j4,j5,j6]
  refine wpAnyG_done (by kernel_rfl) ?_ _
  by_cases hnl : n < l1
  · have hnl' : (n : Int) - 1 < (l1 : Int) - 1 := by omega
    go_wp2_with fail
    first | refine bodyPost_end (v := .tuple #[]) (by simp [results, Try.results70]) rfl ?_ | refine bodyPost_ret (v := .tuple #[]) (by simp [results, Try.results70]) rfl ?_
    refine ⟨rfl, ?_⟩
    unfold csiS
    rw [if_neg (by decide), if_neg (by decide), if_neg (by decide), if_neg (by decide), if_neg (by decide), if_neg (by decide), if_neg (by decide), if_neg (by decide), if_neg (by decide), if_neg (by decide), if_neg (by decide), if_neg (by decide), if_pos (by decide)]
    rw [HN.out, HA1.out, HL1.out, if_pos hnl]
    refine ScrR.mk (cc := cc) (dh := dh) ?_ ?_
    · repeat (with_reducible refine ScrAt.drew ?_)
      exact (((HX1.out.setv5 (n - 1) (by omega)).setv6 (l1 - 1) (by omega)).setv2 0 rfl).setv3 0 rfl
    · repeat (with_reducible refine Upd.drew ?_)
      exact (((HU1.out.set5 _).set6 _).set2 _).set3 _
  · have hnl' : ¬ (n : Int) - 1 < (l1 : Int) - 1 := by omega
    go_wp2_with fail
    first | refine bodyPost_end (v := .tuple #[]) (by simp [results, Try.results70]) rfl ?_ | refine bodyPost_ret (v := .tuple #[]) (by simp [results, Try.results70]) rfl ?_
    refine ⟨rfl, ?_⟩
    unfold csiS
    rw [if_neg (by decide), if_neg (by decide), if_neg (by decide), if_neg (by decide), if_neg (by decide), if_neg (by decide), if_neg (by decide), if_neg (by decide), if_neg (by decide), if_neg (by decide), if_neg (by decide), if_neg (by decide), if_pos (by decide)]
    rw [HN.out, HA1.out, HL1.out, if_neg hnl]
    exact .mk HX1.out HU1.out
theorem csix_c (lo b : Nat) (s : Scr) (g cc : Nat) (ah : Option Addr) (dh : Nat) (w : World) (kd : Int) (xs : List Int) (aa : Option Addr) (ca : Nat) (tx : ByteArray) (c : Int) (hc : ∀ v ∈ [65, 66, 67, 68, 72, 102, 74, 75, 76, 77, 83, 84, 109, 114], c ≠ (v : Int)) (h : ScrAt lo b 0 s g cc ah dh w) (ok : ScrOK s) (hlo : lo ≤ w.heap.size) (ha : Sl intE 1 w aa xs) (hna : ∀ k ∈ blkOf aa, k ≠ b ∧ k ≠ g ∧ k ∉ blkOf ah) (hx8 : xs.length ≤ 8) (hxr : ∀ x ∈ xs, -1 ≤ x ∧ x ≤ 9999) :
    Calls Try.prog 70 #[.pointer (some ⟨b, 0, none⟩), .agg #[.int .i64 kd, .int .i64 c, .bool false, .slice aa xs.length ca, .string tx]] w fun e w' => e = .returned (.tuple #[]) ∧ ScrR lo b 0 (csiS s c xs) g ah w w' := by
  have HS := Lib.hid h
  have HOK := Lib.hid ok
  have HA := Lib.hid ha
  have HNA := Lib.hid hna
  have HXR := Lib.hid hxr
  have HX8 := Lib.hid hx8
  have hw1 := ok.w1
  have hw2 := ok.w2
  have hh1 := ok.h1
  have hh2 := ok.h2
  have hx := ok.hx
  have hy := ok.hy
  have hcur := ok.cur
  have hcn := ok.cn
  have hlt := h.lt
  obtain ⟨n, hn⟩ : ∃ n, arg1 xs 0 = n := ⟨_, rfl⟩
  obtain ⟨A0, hA0⟩ : ∃ a, argA xs 0 1 = a := ⟨_, rfl⟩
  have hAb : -1 ≤ A0 ∧ A0 ≤ 9999 := by rw [← hA0]; exact argA_bd HXR.out (by omega) (by omega)
  have hm : max 1 A0 = (n : Int) := by rw [← hn, ← hA0]; unfold arg1; omega
  have hn1 : 1 ≤ n := by omega
  have hn2 : n ≤ 9999 := by omega
  have HN := Lib.hid hn
  have HA0 := Lib.hid hA0
  obtain ⟨p, hp⟩ : ∃ p, s.y * s.w = p := ⟨_, rfl⟩
  obtain ⟨mx, hmx⟩ : ∃ m, min s.x (s.w - 1) = m := ⟨_, rfl⟩
  obtain ⟨cr, hcr⟩ : ∃ c, curS s = c := ⟨_, rfl⟩
  obtain ⟨pn, hpn⟩ : ∃ q, (s.y + 1) * s.w = q := ⟨_, rfl⟩
  obtain ⟨nn, hnn⟩ : ∃ q, s.w * s.h = q := ⟨_, rfl⟩
  have hpi : (s.y : Int) * (s.w : Int) = (p : Int) := by rw [← hp]; exact (Int.natCast_mul _ _).symm
  have hpni : ((s.y : Int) + 1) * (s.w : Int) = (pn : Int) := by rw [← hpn]; exact (Int.natCast_mul (s.y + 1) s.w).symm
  have hnni : (s.w : Int) * (s.h : Int) = (nn : Int) := by rw [← hnn]; exact (Int.natCast_mul _ _).symm
  have hmi : min (s.x : Int) ((s.w : Int) - 1) = (mx : Int) := by omega
  have hcri : (p : Int) + (mx : Int) = (cr : Int) := by rw [← hcr, ← hp, ← hmx]; unfold curS; omega
  have hn240 : nn ≤ 240 := by rw [← hnn]; exact Nat.mul_le_mul hw2 hh2
  rw [hcr, hp, hpn, hnn] at hcur
  rw [hnn] at hcn
  obtain ⟨hc1, hc2, hc3⟩ := hcur
  have HCN := Lib.hid hcn
  have HP := Lib.hid hp
  have HMX := Lib.hid hmx
  have HCR := Lib.hid hcr
  have HPN := Lib.hid hpn
  have HNN := Lib.hid hnn
  have hwA : IntKind.i64.wrap ((s.w : Int) - 1) = (s.w : Int) - 1 := IntWalk.i64_in _ ⟨by omega, by omega⟩
  have hwB : IntKind.i64.wrap (p : Int) = (p : Int) := IntWalk.i64_in _ ⟨by omega, by omega⟩
  have hwC : IntKind.i64.wrap (cr : Int) = (cr : Int) := IntWalk.i64_in _ ⟨by omega, by omega⟩
  have hwD : IntKind.i64.wrap (pn : Int) = (pn : Int) := IntWalk.i64_in _ ⟨by omega, by omega⟩
  have hwE : IntKind.i64.wrap (nn : Int) = (nn : Int) := IntWalk.i64_in _ ⟨by omega, by omega⟩
  have hwF : IntKind.i64.wrap ((s.y : Int) + 1) = (s.y : Int) + 1 := IntWalk.i64_in _ ⟨by omega, by omega⟩
  have hwG : IntKind.i64.wrap ((cr : Int) + 1) = (cr : Int) + 1 := IntWalk.i64_in _ ⟨by omega, by omega⟩
  obtain ⟨ln, hln⟩ : ∃ l, xs.length = l := ⟨_, rfl⟩
  have HLN := Lib.hid hln
  have HCALL : ∀ (i : Nat) (d : Int) (W : World), i ≤ 7 → Sl intE 1 W aa xs → Calls Try.prog 84 #[.agg #[.int .i64 kd, .int .i64 c, .bool false, .slice aa ln ca, .string tx], .int .i64 i, .int .i64 d] W fun e w' => e = .returned (.int .i64 (argA xs i d)) ∧ Below W.heap.size W w' := fun i d W hi hW => by
    rw [← hln]
    exact l03ArgG_c kd c false tx xs aa ca i d W hW hi hx8
  rw [hln]
  clear h ok ha hna hxr hx8 hn hA0 hp hmx hcr hpn hnn hcn hln
  go_enter Try.func70, Try.ntmps70
  go_wp2_with fail
  refine (HCALL 0 1 _ (by omega) (HA.out.alloc _)).mono ?_
  rintro e v0 ⟨rfl, hb0⟩
  rw [HA0.out]
  have HB0 : Hid (Below w.heap.size w v0) := Lib.hid (((Below.refl w.heap.size w).alloc (Nat.le_refl _) _).trans (hb0.mono (by simp)))
  have hz0 := HB0.out.size
  have q_l : w.heap.size < v0.heap.size := by have := hb0.size; simp at this; omega
  have q_0 : v0.cell? ⟨w.heap.size, 0, none⟩ = some (.int .i64 kd) := kC hb0 (by simp) (by simp [go_sem])
  have q_1 : v0.cell? ⟨w.heap.size, 1, none⟩ = some (.int .i64 c) := kC hb0 (by simp) (by simp [go_sem])
  have q_2 : v0.cell? ⟨w.heap.size, 2, none⟩ = some (.bool false) := kC hb0 (by simp) (by simp [go_sem])
  have q_3 : v0.cell? ⟨w.heap.size, 3, none⟩ = some (.slice aa ln ca) := kC hb0 (by simp) (by simp [go_sem])
  have q_4 : v0.cell? ⟨w.heap.size, 4, none⟩ = some (.string tx) := kC hb0 (by simp) (by simp [go_sem])
  clear hb0
  have q_b : ¬ w.heap.size = b := by omega
  have HA_nb : ∀ k ∈ blkOf aa, ¬ k = b := fun k hk => (HNA.out k hk).1
  have Hv0 := Lib.hid (HS.out.below HB0.out)
  have HA2 := Lib.hid (HA.out.keep HB0.out)
  have HUv0 : Hid (Upd b 0 (0 + 12) (fun k => k = g ∨ k ∈ blkOf ah) w v0) := Lib.hid (Upd.refl'.below HB0.out HS.out.lt)
  have HA2_nb := HA_nb
  have k_0 := Hv0.out.e0
  have k_1 := Hv0.out.e1
  have k_2 := Hv0.out.e2
  have k_3 := Hv0.out.e3
  have k_4 := Hv0.out.e4
  have k_5 := Hv0.out.e5
  have k_6 := Hv0.out.e6
  have k_7 := Hv0.out.e7
  have k_8 := Hv0.out.e8
  have k_9 := Hv0.out.e9
  have k_10 := Hv0.out.e10
  have k_11 := Hv0.out.e11
  have k_f := Hv0.out.fz
  have k_l := Hv0.out.lt
  go_upto_region 4 with fail
  have hSc1 := And.intro k_0 (And.intro k_2 k_3)
  refine wp_region_G (fun w' => w'.cell? ⟨b, 0, none⟩ = some (.int .i64 (s.w : Int)) ∧ w'.cell? ⟨b, 2, none⟩ = some (.int .i64 (s.x : Int)) ∧ w'.cell? ⟨b, 3, none⟩ = some (.int .i64 (s.y : Int))) (fun i => false) (by kernel_rfl) hSc1 ?_
  refine tW ?_ 0 rfl ?_ ?_; rotate_left
  · intro w' hSw; go_simp; try rfl
  try simp only [Act.put,j1,j2,j3,j4,j5,j6]
  refine tW ?_ 1 rfl ?_ ?_; rotate_left
  · intro w' hSw; go_simp; try rfl
  try simp only [Act.put,j1,j2,j3,j4,j5,j6]
  refine tW ?_ 2 rfl ?_ ?_; rotate_left
  · intro w' hSw; go_simp; try rfl
  try simp only [Act.put,j1,j2,j3,j4,j5,j6]
  refine tL ?_ 3 rfl hSc1 ?_ ?_; rotate_left
  · intro w' hSw; obtain ⟨s0, s1, s2⟩ := hSw; go_simp; try rfl
  try simp only [Act.put,j1,j2,j3,j4,j5,j6]
  refine tW ?_ 4 rfl ?_ ?_; rotate_left
  · intro w' hSw; go_simp; try rfl
  try simp only [Act.put,j1,j2,j3,j4,j5,j6]
  refine tW ?_ 5 rfl ?_ ?_; rotate_left
  · intro w' hSw; go_simp; try rfl
  try simp only [Act.put,j1,j2,j3,j4,j5,j6]
  refine tW ?_ 6 rfl ?_ ?_; rotate_left
  · intro w' hSw; go_simp; try rfl
  try simp only [Act.put,j1,j2,j3,j4,j5,j6]
  refine tL ?_ 7 rfl hSc1 ?_ ?_; rotate_left
  · intro w' hSw; obtain ⟨s0, s1, s2⟩ := hSw; go_simp; try rfl
  try simp only [Act.put,j1,j2,j3,j4,j5,j6]
  refine tW ?_ 8 rfl ?_ ?_; rotate_left
  · intro w' hSw; go_simp; try rfl
  try simp only [Act.put,j1,j2,j3,j4,j5,j6]
  refine tW ?_ 9 rfl ?_ ?_; rotate_left
  · intro w' hSw; go_simp; try rfl
  try simp only [Act.put,j1,j2,j3,j4,j5,j6]
  refine tW ?_ 10 rfl ?_ ?_; rotate_left
  · intro w' hSw; go_simp; try rfl
  try simp only [Act.put,j1,j2,j3,j4,j5,j6]
  refine tW ?_ 11 rfl ?_ ?_; rotate_left
  · intro w' hSw; go_simp; try rfl
  try simp only [Act.put,j1,j2,j3,j4,j5,j6]
  refine tL ?_ 12 rfl hSc1 ?_ ?_; rotate_left
  · intro w' hSw; obtain ⟨s0, s1, s2⟩ := hSw; go_simp; try rfl
  try simp only [Act.put,j1,j2,j3,j4,j5,j6]
  refine tW ?_ 13 rfl ?_ ?_; rotate_left
  · intro w' hSw; go_simp; try rfl
  try simp only [Act.put,j1,j2,j3,j4,j5,j6]
  refine tW ?_ 14 rfl ?_ ?_; rotate_left
  · intro w' hSw; go_simp; try rfl
  try simp only [Act.put,j1,j2,j3,j4,j5,j6]
  refine tW ?_ 15 rfl ?_ ?_; rotate_left
  · intro w' hSw; go_simp; try rfl
  try simp only [Act.put,j1,j2,j3,j4,j5,j6]
  refine tL ?_ 16 rfl hSc1 ?_ ?_; rotate_left
  · intro w' hSw; obtain ⟨s0, s1, s2⟩ := hSw; go_simp; try rfl
  try simp only [Act.put,j1,j2,j3,j4,j5,j6]
  refine tW ?_ 17 rfl ?_ ?_; rotate_left
  · intro w' hSw; go_simp; try rfl
  try simp only [Act.put,j1,j2,j3,j4,j5,j6]
  refine tW ?_ 18 rfl ?_ ?_; rotate_left
  · intro w' hSw; go_simp; try rfl
  try simp only [Act.put,j1,j2,j3,j4,j5,j6]
  refine tW ?_ 19 rfl ?_ ?_; rotate_left
  · intro w' hSw; go_simp; try rfl
  try simp only [Act.put,j1,j2,j3,j4,j5,j6]
  refine tW ?_ 20 rfl ?_ ?_; rotate_left
  · intro w' hSw; go_simp; try rfl
  try simp only [Act.put,j1,j2,j3,j4,j5,j6]
  refine wpAnyG_done (by kernel_rfl) ?_ _
  obtain ⟨v1, hv1⟩ : ∃ x, v0.drew = x := ⟨_, rfl⟩
  have HBv1 : Hid (Below v0.heap.size v0 v1) := Lib.hid (by rw [← hv1]; exact (Below.refl _ _).drew)
  rw [hv1]
  have hzv1 := HBv1.out.size
  have Hv1 := Lib.hid (Hv0.out.below HBv1.out)
  have HUv1 : Hid (Upd b 0 (0 + 12) (fun k => k = g ∨ k ∈ blkOf ah) w v1) := Lib.hid (HUv0.out.below HBv1.out Hv0.out.lt)
  have qn_0 := kC HBv1.out q_l q_0
  have qn_1 := kC HBv1.out q_l q_1
  have qn_2 := kC HBv1.out q_l q_2
  have qn_3 := kC HBv1.out q_l q_3
  have qn_4 := kC HBv1.out q_l q_4
  have qn_l := Nat.lt_of_lt_of_le q_l HBv1.out.size
  clear q_0 q_1 q_2 q_3 q_4 q_l
  have HA2n := Lib.hid (HA2.out.keep HBv1.out)
  clear k_f k_l k_0 k_1 k_2 k_3 k_4 k_5 k_6 k_7 k_8 k_9 k_10 k_11 hv1 hSc1
  have k_0 := Hv1.out.e0
  have k_1 := Hv1.out.e1
  have k_2 := Hv1.out.e2
  have k_3 := Hv1.out.e3
  have k_4 := Hv1.out.e4
  have k_5 := Hv1.out.e5
  have k_6 := Hv1.out.e6
  have k_7 := Hv1.out.e7
  have k_8 := Hv1.out.e8
  have k_9 := Hv1.out.e9
  have k_10 := Hv1.out.e10
  have k_11 := Hv1.out.e11
  have k_f := Hv1.out.fz
  have k_l := Hv1.out.lt
  have r65 : (c == 65) = false := beq_eq_false_iff_ne.2 (hc 65 (by decide))
  have r66 : (c == 66) = false := beq_eq_false_iff_ne.2 (hc 66 (by decide))
  have r67 : (c == 67) = false := beq_eq_false_iff_ne.2 (hc 67 (by decide))
  have r68 : (c == 68) = false := beq_eq_false_iff_ne.2 (hc 68 (by decide))
  have r72 : (c == 72) = false := beq_eq_false_iff_ne.2 (hc 72 (by decide))
  have r102 : (c == 102) = false := beq_eq_false_iff_ne.2 (hc 102 (by decide))
  have r74 : (c == 74) = false := beq_eq_false_iff_ne.2 (hc 74 (by decide))
  have r75 : (c == 75) = false := beq_eq_false_iff_ne.2 (hc 75 (by decide))
  have r76 : (c == 76) = false := beq_eq_false_iff_ne.2 (hc 76 (by decide))
  have r77 : (c == 77) = false := beq_eq_false_iff_ne.2 (hc 77 (by decide))
  have r83 : (c == 83) = false := beq_eq_false_iff_ne.2 (hc 83 (by decide))
  have r84 : (c == 84) = false := beq_eq_false_iff_ne.2 (hc 84 (by decide))
  have r109 : (c == 109) = false := beq_eq_false_iff_ne.2 (hc 109 (by decide))
  have r114 : (c == 114) = false := beq_eq_false_iff_ne.2 (hc 114 (by decide))
  go_wp2_with fail
  first | refine bodyPost_end (v := .tuple #[]) (by simp [results, Try.results70]) rfl ?_ | refine bodyPost_ret (v := .tuple #[]) (by simp [results, Try.results70]) rfl ?_
  refine ⟨rfl, ?_⟩
  unfold csiS
  rw [if_neg (hc 65 (by decide)), if_neg (hc 66 (by decide)), if_neg (hc 67 (by decide)), if_neg (hc 68 (by decide)), if_neg (fun h => h.elim (hc 72 (by decide)) (hc 102 (by decide))), if_neg (hc 74 (by decide)), if_neg (hc 75 (by decide)), if_neg (hc 76 (by decide)), if_neg (hc 77 (by decide)), if_neg (hc 83 (by decide)), if_neg (hc 84 (by decide)), if_neg (hc 109 (by decide)), if_neg (hc 114 (by decide))]
  exact .mk Hv1.out HUv1.out
end
section
open Go.RowKit
theorem csiP_c (lo b : Nat) (s : Scr) (g cc : Nat) (ah : Option Addr) (dh : Nat) (w : World) (kd c : Int) (xs : List Int) (aa : Option Addr) (ca : Nat) (tx : ByteArray) (h : ScrAt lo b 0 s g cc ah dh w) :
    Calls Try.prog 70 #[.pointer (some ⟨b, 0, none⟩), .agg #[.int .i64 kd, .int .i64 c, .bool true, .slice aa xs.length ca, .string tx]] w fun e w' => e = .returned (.tuple #[]) ∧ ScrR lo b 0 s g ah w w' := by
  have HS := Lib.hid h
  obtain ⟨ln, hln⟩ : ∃ l, xs.length = l := ⟨_, rfl⟩
  rw [hln]
  clear h hln
  go_enter Try.func70, Try.ntmps70
  go_wp2_with fail
  refine bodyPost_ret (v := .tuple #[]) (by simp [results, Try.results70]) rfl ?_
  exact ⟨rfl, .mk (HS.out.alloc _) (Upd.refl'.below ((Below.refl _ _).alloc (Nat.le_refl _) _) HS.out.lt)⟩
theorem csi_c (lo b : Nat) (s : Scr) (g cc : Nat) (ah : Option Addr) (dh : Nat) (w : World) (kd c : Int) (pv : Bool) (xs : List Int) (aa : Option Addr) (ca : Nat) (tx : ByteArray) (h : ScrAt lo b 0 s g cc ah dh w) (ok : ScrOK s) (hlo : lo ≤ w.heap.size) (ha : Sl intE 1 w aa xs) (hna : ∀ k ∈ blkOf aa, k ≠ b ∧ k ≠ g ∧ k ∉ blkOf ah) (hx8 : xs.length ≤ 8) (hxr : ∀ x ∈ xs, -1 ≤ x ∧ x ≤ 9999) :
    Calls Try.prog 70 #[.pointer (some ⟨b, 0, none⟩), .agg #[.int .i64 kd, .int .i64 c, .bool pv, .slice aa xs.length ca, .string tx]] w fun e w' => e = .returned (.tuple #[]) ∧ ScrR lo b 0 (if pv = true then s else csiS s c xs) g ah w w' := by
  cases pv with
  | true => exact csiP_c lo b s g cc ah dh w kd c xs aa ca tx h
  | false =>
    rw [if_neg (by decide)]
    by_cases h65 : c = 65
    · subst h65; exact csi65_c lo b s g cc ah dh w kd xs aa ca tx h ok hlo ha hna hx8 hxr
    by_cases h66 : c = 66
    · subst h66; exact csi66_c lo b s g cc ah dh w kd xs aa ca tx h ok hlo ha hna hx8 hxr
    by_cases h67 : c = 67
    · subst h67; exact csi67_c lo b s g cc ah dh w kd xs aa ca tx h ok hlo ha hna hx8 hxr
    by_cases h68 : c = 68
    · subst h68; exact csi68_c lo b s g cc ah dh w kd xs aa ca tx h ok hlo ha hna hx8 hxr
    by_cases h72 : c = 72
    · subst h72; exact csi72_c lo b s g cc ah dh w kd xs aa ca tx h ok hlo ha hna hx8 hxr
    by_cases h102 : c = 102
    · subst h102; exact csi102_c lo b s g cc ah dh w kd xs aa ca tx h ok hlo ha hna hx8 hxr
    by_cases h74 : c = 74
    · subst h74; exact csi74_c lo b s g cc ah dh w kd xs aa ca tx h ok hlo ha hna hx8 hxr
    by_cases h75 : c = 75
    · subst h75; exact csi75_c lo b s g cc ah dh w kd xs aa ca tx h ok hlo ha hna hx8 hxr
    by_cases h76 : c = 76
    · subst h76; exact csi76_c lo b s g cc ah dh w kd xs aa ca tx h ok hlo ha hna hx8 hxr
    by_cases h77 : c = 77
    · subst h77; exact csi77_c lo b s g cc ah dh w kd xs aa ca tx h ok hlo ha hna hx8 hxr
    by_cases h83 : c = 83
    · subst h83; exact csi83_c lo b s g cc ah dh w kd xs aa ca tx h ok hlo ha hna hx8 hxr
    by_cases h84 : c = 84
    · subst h84; exact csi84_c lo b s g cc ah dh w kd xs aa ca tx h ok hlo ha hna hx8 hxr
    by_cases h109 : c = 109
    · subst h109; exact csi109_c lo b s g cc ah dh w kd xs aa ca tx h ok hlo ha hna hx8 hxr
    by_cases h114 : c = 114
    · subst h114; exact csi114_c lo b s g cc ah dh w kd xs aa ca tx h ok hlo ha hna hx8 hxr
    refine csix_c lo b s g cc ah dh w kd xs aa ca tx c (fun v hv => ?_) h ok hlo ha hna hx8 hxr
    simp only [List.mem_cons, List.not_mem_nil, or_false] at hv
    rcases hv with rfl | rfl | rfl | rfl | rfl | rfl | rfl | rfl | rfl | rfl | rfl | rfl | rfl | rfl <;> assumption
theorem AcOK.xs4 {n : Int} {pv : Bool} {xs : List Int} {tx : ByteArray} (h : AcOK ⟨4, n, pv, xs, tx⟩) : xs.length ≤ 8 ∧ ∀ x ∈ xs, -1 ≤ x ∧ x ≤ 9999 := by
  rcases h with ⟨_, _, h, _⟩ | ⟨_, h, _⟩
  · simp only [argsB, Bool.and_eq_true, decide_eq_true_eq, List.all_eq_true] at h
    exact ⟨h.1.2, h.2⟩
  · simp only at h
    subst h
    exact ⟨by decide, by simp⟩
theorem do_c (lo b : Nat) (s : Scr) (g cc : Nat) (ah : Option Addr) (dh : Nat) (w : World) (a : AV) (aa : Option Addr) (ca : Nat) (h : ScrAt lo b 0 s g cc ah dh w) (ok : ScrOK s) (hlo : lo ≤ w.heap.size) (hac : AcOK a) (ha : Sl intE 1 w aa a.args) (hna : ∀ k ∈ blkOf aa, k ≠ b ∧ k ≠ g ∧ k ∉ blkOf ah) :
    Calls Try.prog 53 #[.pointer (some ⟨b, 0, none⟩), .agg #[.int .i64 a.kind, .int .i64 a.n, .bool a.priv, .slice aa a.args.length ca, .string a.text]] w fun e w' => e = .returned (.tuple #[]) ∧ ScrR lo b 0 (actS s a) g ah w w' := by
  obtain ⟨kd, n, pv, xs, tx⟩ := a
  have HOK := Lib.hid ok
  obtain ⟨w1, hw1⟩ : ∃ x, w.alloc (.cells #[.int .i64 kd, .int .i64 n, .bool pv, .slice aa xs.length ca, .string tx] 87) = x := ⟨_, rfl⟩
  have HB1 : Hid (Below w.heap.size w w1) := Lib.hid (by rw [← hw1]; exact (Below.refl _ _).alloc (Nat.le_refl _) _)
  have hz1 := HB1.out.size
  have HS1 := Lib.hid (h.below HB1.out)
  have HU1 : Hid (Upd b 0 (0 + 12) (fun k => k = g ∨ k ∈ blkOf ah) w w1) := Lib.hid (Upd.refl'.below HB1.out h.lt)
  have HA1 := Lib.hid (ha.keep HB1.out)
  have HNA := Lib.hid hna
  have q_0 : w1.cell? ⟨w.heap.size, 0, none⟩ = some (.int .i64 kd) := by rw [← hw1]; simp [go_sem]
  have q_1 : w1.cell? ⟨w.heap.size, 1, none⟩ = some (.int .i64 n) := by rw [← hw1]; simp [go_sem]
  have q_2 : w1.cell? ⟨w.heap.size, 2, none⟩ = some (.bool pv) := by rw [← hw1]; simp [go_sem]
  have q_3 : w1.cell? ⟨w.heap.size, 3, none⟩ = some (.slice aa xs.length ca) := by rw [← hw1]; simp [go_sem]
  have q_4 : w1.cell? ⟨w.heap.size, 4, none⟩ = some (.string tx) := by rw [← hw1]; simp [go_sem]
  have hAC : Hid (AcOK ⟨kd, n, pv, xs, tx⟩) := Lib.hid hac
  have hlo1 : lo ≤ w1.heap.size := by omega
  clear h ok ha hna hac
  by_cases hk1 : kd = 1
  · subst hk1
    go_enter Try.func53, Try.ntmps53
    go_upto_region 1 with fail
    go_wp2_with fail
    refine (print_c lo b s g cc ah dh _ n HS1.out HOK.out hlo1).mono ?_
    rintro e x1 ⟨rfl, hr⟩
    have HR := Lib.hid hr
    clear hr
    go_wp2_with fail
    refine bodyPost_end (v := .tuple #[]) (by simp [results, Try.results53]) rfl ?_
    refine ⟨rfl, ScrR.trans HS1.out HU1.out (.inl rfl) (fun _ h => .inl h) ?_⟩
    unfold actS
    rw [if_pos rfl]
    exact HR.out
  by_cases hk2 : kd = 2
  · subst hk2
    go_enter Try.func53, Try.ntmps53
    go_upto_region 1 with fail
    go_wp2_with fail
    refine (control_c lo b s g cc ah dh _ n HS1.out HOK.out hlo1).mono ?_
    rintro e x1 ⟨rfl, hr⟩
    have HR := Lib.hid hr
    clear hr
    go_wp2_with fail
    refine bodyPost_end (v := .tuple #[]) (by simp [results, Try.results53]) rfl ?_
    refine ⟨rfl, ScrR.trans HS1.out HU1.out (.inl rfl) (fun _ h => .inl h) ?_⟩
    unfold actS
    rw [if_neg (by show ¬ (2 : Int) = 1; decide), if_pos rfl]
    exact HR.out
  by_cases hk3 : kd = 3
  · subst hk3
    go_enter Try.func53, Try.ntmps53
    go_upto_region 1 with fail
    go_wp2_with fail
    refine (escape_c lo b s g cc ah dh _ n HS1.out HOK.out hlo1).mono ?_
    rintro e x1 ⟨rfl, hr⟩
    have HR := Lib.hid hr
    clear hr
    go_wp2_with fail
    refine bodyPost_end (v := .tuple #[]) (by simp [results, Try.results53]) rfl ?_
    refine ⟨rfl, ScrR.trans HS1.out HU1.out (.inl rfl) (fun _ h => .inl h) ?_⟩
    unfold actS
    rw [if_neg (by show ¬ (3 : Int) = 1; decide), if_neg (by show ¬ (3 : Int) = 2; decide), if_pos rfl]
    exact HR.out
  by_cases hk4 : kd = 4
  · subst hk4
    go_enter Try.func53, Try.ntmps53
    go_upto_region 1 with fail
    go_wp2_with fail
    refine (csi_c lo b s g cc ah dh _ 4 n pv xs aa ca tx HS1.out HOK.out hlo1 HA1.out HNA.out (AcOK.xs4 hAC.out).1 (AcOK.xs4 hAC.out).2).mono ?_
    rintro e x1 ⟨rfl, hr⟩
    have HR := Lib.hid hr
    clear hr
    go_wp2_with fail
    refine bodyPost_end (v := .tuple #[]) (by simp [results, Try.results53]) rfl ?_
    refine ⟨rfl, ScrR.trans HS1.out HU1.out (.inl rfl) (fun _ h => .inl h) ?_⟩
    unfold actS
    rw [if_neg (by show ¬ (4 : Int) = 1; decide), if_neg (by show ¬ (4 : Int) = 2; decide), if_neg (by show ¬ (4 : Int) = 3; decide), if_pos rfl]
    exact HR.out
  by_cases hk5 : kd = 5
  · subst hk5
    go_enter Try.func53, Try.ntmps53
    go_upto_region 1 with fail
    have k_9 := HS1.out.c9
    have k_f := HS1.out.fz
    have k_l := HS1.out.lt
    go_wp2_with fail
    refine bodyPost_end (v := .tuple #[]) (by simp [results, Try.results53]) rfl ?_
    refine ⟨rfl, ?_⟩
    unfold actS
    rw [if_neg (by show ¬ (5 : Int) = 1; decide), if_neg (by show ¬ (5 : Int) = 2; decide), if_neg (by show ¬ (5 : Int) = 3; decide), if_neg (by show ¬ (5 : Int) = 4; decide), if_pos rfl]
    exact .mk (HS1.out.set9 tx) (HU1.out.set9 _)
  rcases hAC.out with ⟨hk, _⟩ | ⟨_, _, ⟨hk, _⟩ | ⟨_, ⟨hk, _⟩ | ⟨hk, _⟩ | ⟨hk, _⟩⟩⟩
  · exact absurd hk hk4
  · exact absurd hk hk5
  · exact absurd hk hk1
  · exact absurd hk hk2
  · exact absurd hk hk3
end
section
open Go.RowKit
def FeedR (s : Scr) (p : PV) (w : World) (e : Ending) (w' : World) : Prop :=
  ∃ ac cc ah dh ap cp, e = .returned (.tuple #[scrV s ac cc ah dh, .agg #[.int .i64 p.state, .slice ap p.args.length cp, .bool p.priv, .string p.text, .string p.utf]]) ∧ ScrF w.heap.size s ac cc ah dh w' ∧ FreshIn intE 3 1 w.heap.size w'.heap.size (.slice ap p.args.length cp) p.args w' ∧ (∀ k ∈ blkOf ap, k ∉ blkOf ac ∧ k ∉ blkOf ah) ∧ Below w.heap.size w w'
theorem l04Feed_c (s : Scr) (ac : Option Addr) (cc : Nat) (ah : Option Addr) (dh : Nat) (p : PV) (ap : Option Addr) (cp : Nat) (t : ByteArray) (w : World) (hs : ScrS s ac ah w) (ok : ScrOK s) (hp : PvOK p) (ha : Sl intE 1 w ap p.args) (ht : t.size ≤ 131072) :
    Calls Try.prog 22 #[.agg #[.int .i64 (s.w : Int), .int .i64 (s.h : Int), .int .i64 (s.x : Int), .int .i64 (s.y : Int), .int .i64 (s.look : Int), .int .i64 (s.top : Int), .int .i64 (s.bot : Int), .int .i64 (s.sx : Int), .int .i64 (s.sy : Int), .string s.title, .slice ac s.cells.length cc, .slice ah s.hist.length dh], .agg #[.int .i64 p.state, .slice ap p.args.length cp, .bool p.priv, .string p.text, .string p.utf], .string t] w (FeedR (actsS s (prun p t.data.toList).2) (prun p t.data.toList).1 w) := by
  obtain ⟨W0, hW0⟩ : ∃ x, (((w.alloc (.cells #[.int .i64 (s.w : Int), .int .i64 (s.h : Int), .int .i64 (s.x : Int), .int .i64 (s.y : Int), .int .i64 (s.look : Int), .int .i64 (s.top : Int), .int .i64 (s.bot : Int), .int .i64 (s.sx : Int), .int .i64 (s.sy : Int), .string s.title, .slice ac s.cells.length cc, .slice ah s.hist.length dh] 26)).alloc (.cells #[.int .i64 p.state, .slice ap p.args.length cp, .bool p.priv, .string p.text, .string p.utf] 50)).alloc (.cells #[.int .i64 0, .int .i64 0, .int .i64 0, .int .i64 0, .int .i64 0, .int .i64 0, .int .i64 0, .int .i64 0, .int .i64 0, .string ⟨#[]⟩, .slice none 0 0, .slice none 0 0] 26)).alloc (.cells #[.int .i64 0, .slice none 0 0, .bool false, .string ⟨#[]⟩, .string ⟨#[]⟩] 50) = x := ⟨_, rfl⟩
  have HB0 : Hid (Below w.heap.size w W0) := Lib.hid (by rw [← hW0]; exact ((((Below.refl w.heap.size w).alloc (Nat.le_refl _) _).alloc (by simp) _).alloc (by simp; omega) _).alloc (by simp; omega) _)
  have hz0 : w.heap.size + 3 < W0.heap.size := by rw [← hW0]; simp
  have a_0 : W0.cell? ⟨w.heap.size, 0, none⟩ = some (.int .i64 (s.w : Int)) := by rw [← hW0]; simp [go_sem]
  have a_1 : W0.cell? ⟨w.heap.size, 1, none⟩ = some (.int .i64 (s.h : Int)) := by rw [← hW0]; simp [go_sem]
  have a_2 : W0.cell? ⟨w.heap.size, 2, none⟩ = some (.int .i64 (s.x : Int)) := by rw [← hW0]; simp [go_sem]
  have a_3 : W0.cell? ⟨w.heap.size, 3, none⟩ = some (.int .i64 (s.y : Int)) := by rw [← hW0]; simp [go_sem]
  have a_4 : W0.cell? ⟨w.heap.size, 4, none⟩ = some (.int .i64 (s.look : Int)) := by rw [← hW0]; simp [go_sem]
  have a_5 : W0.cell? ⟨w.heap.size, 5, none⟩ = some (.int .i64 (s.top : Int)) := by rw [← hW0]; simp [go_sem]
  have a_6 : W0.cell? ⟨w.heap.size, 6, none⟩ = some (.int .i64 (s.bot : Int)) := by rw [← hW0]; simp [go_sem]
  have a_7 : W0.cell? ⟨w.heap.size, 7, none⟩ = some (.int .i64 (s.sx : Int)) := by rw [← hW0]; simp [go_sem]
  have a_8 : W0.cell? ⟨w.heap.size, 8, none⟩ = some (.int .i64 (s.sy : Int)) := by rw [← hW0]; simp [go_sem]
  have a_9 : W0.cell? ⟨w.heap.size, 9, none⟩ = some (.string s.title) := by rw [← hW0]; simp [go_sem]
  have a_10 : W0.cell? ⟨w.heap.size, 10, none⟩ = some (.slice ac s.cells.length cc) := by rw [← hW0]; simp [go_sem]
  have a_11 : W0.cell? ⟨w.heap.size, 11, none⟩ = some (.slice ah s.hist.length dh) := by rw [← hW0]; simp [go_sem]
  have b_0 : W0.cell? ⟨w.heap.size + 1, 0, none⟩ = some (.int .i64 p.state) := by rw [← hW0]; simp [go_sem]
  have b_1 : W0.cell? ⟨w.heap.size + 1, 1, none⟩ = some (.slice ap p.args.length cp) := by rw [← hW0]; simp [go_sem]
  have b_2 : W0.cell? ⟨w.heap.size + 1, 2, none⟩ = some (.bool p.priv) := by rw [← hW0]; simp [go_sem]
  have b_3 : W0.cell? ⟨w.heap.size + 1, 3, none⟩ = some (.string p.text) := by rw [← hW0]; simp [go_sem]
  have b_4 : W0.cell? ⟨w.heap.size + 1, 4, none⟩ = some (.string p.utf) := by rw [← hW0]; simp [go_sem]
  have c_0 : W0.cell? ⟨w.heap.size + 2, 0, none⟩ = some (.int .i64 0) := by rw [← hW0]; simp [go_sem]
  have c_1 : W0.cell? ⟨w.heap.size + 2, 1, none⟩ = some (.int .i64 0) := by rw [← hW0]; simp [go_sem]
  have c_2 : W0.cell? ⟨w.heap.size + 2, 2, none⟩ = some (.int .i64 0) := by rw [← hW0]; simp [go_sem]
  have c_3 : W0.cell? ⟨w.heap.size + 2, 3, none⟩ = some (.int .i64 0) := by rw [← hW0]; simp [go_sem]
  have c_4 : W0.cell? ⟨w.heap.size + 2, 4, none⟩ = some (.int .i64 0) := by rw [← hW0]; simp [go_sem]
  have c_5 : W0.cell? ⟨w.heap.size + 2, 5, none⟩ = some (.int .i64 0) := by rw [← hW0]; simp [go_sem]
  have c_6 : W0.cell? ⟨w.heap.size + 2, 6, none⟩ = some (.int .i64 0) := by rw [← hW0]; simp [go_sem]
  have c_7 : W0.cell? ⟨w.heap.size + 2, 7, none⟩ = some (.int .i64 0) := by rw [← hW0]; simp [go_sem]
  have c_8 : W0.cell? ⟨w.heap.size + 2, 8, none⟩ = some (.int .i64 0) := by rw [← hW0]; simp [go_sem]
  have c_9 : W0.cell? ⟨w.heap.size + 2, 9, none⟩ = some (.string ⟨#[]⟩) := by rw [← hW0]; simp [go_sem]
  have c_10 : W0.cell? ⟨w.heap.size + 2, 10, none⟩ = some (.slice none 0 0) := by rw [← hW0]; simp [go_sem]
  have c_11 : W0.cell? ⟨w.heap.size + 2, 11, none⟩ = some (.slice none 0 0) := by rw [← hW0]; simp [go_sem]
  have c_f : ∀ o, W0.frozen? ⟨w.heap.size + 2, o, none⟩ = false := fun o => by rw [← hW0]; simp [go_sem]
  have d_0 : W0.cell? ⟨w.heap.size + 3, 0, none⟩ = some (.int .i64 0) := by rw [← hW0]; simp [go_sem]
  have d_1 : W0.cell? ⟨w.heap.size + 3, 1, none⟩ = some (.slice none 0 0) := by rw [← hW0]; simp [go_sem]
  have d_2 : W0.cell? ⟨w.heap.size + 3, 2, none⟩ = some (.bool false) := by rw [← hW0]; simp [go_sem]
  have d_3 : W0.cell? ⟨w.heap.size + 3, 3, none⟩ = some (.string ⟨#[]⟩) := by rw [← hW0]; simp [go_sem]
  have d_4 : W0.cell? ⟨w.heap.size + 3, 4, none⟩ = some (.string ⟨#[]⟩) := by rw [← hW0]; simp [go_sem]
  have d_f : ∀ o, W0.frozen? ⟨w.heap.size + 3, o, none⟩ = false := fun o => by rw [← hW0]; simp [go_sem]
  have HS0 := Lib.hid (hs.below HB0.out)
  have HOK := Lib.hid ok
  have HP := Lib.hid hp
  have HA0 := Lib.hid (ha.keep HB0.out)
  have hcn : s.cells.length ≤ 240 := by rw [ok.cn]; exact Nat.mul_le_mul ok.w2 ok.h2
  have hhn := ok.hn
  have hc0 : 0 < s.cells.length := by rw [ok.cn]; exact Nat.mul_pos (by have := ok.w1; omega) (by have := ok.h1; omega)
  have HCN := Lib.hid hcn
  have HHN := Lib.hid hhn
  have HC0 := Lib.hid hc0
  clear hs ok hp ha hcn hhn hc0
  go_enter Try.func22, Try.ntmps22
  go_upto_region 1 with fail
  clear hW0
  go_wp2_with fail
  refine (run_r ap cp p t _ HA0.out ht HP.out).mono ?_
  rintro e w1 ⟨ap2, cp2, al2, cl2, L, rfl, hf, hro, hd, hL, hb⟩
  obtain ⟨q, hq⟩ : ∃ q, (prun p t.data.toList).1 = q := ⟨_, rfl⟩
  obtain ⟨acts, hacts⟩ : ∃ l, (prun p t.data.toList).2 = l := ⟨_, rfl⟩
  have hAC : ∀ r ∈ L, AcOK r.A := fun r hr => prun_ac t.data.toList HP.out r.A (by rw [← hL]; exact List.mem_map_of_mem hr)
  have hLn : L.length ≤ 300000 := by
    have h1 := run_len t.data.toList p
    have h2 := congrArg List.length hL
    have h3 : t.data.toList.length = t.size := rfl
    rw [List.length_map] at h2
    omega
  rw [hq] at hf
  rw [hacts] at hL
  rw [hq]
  have HQ := Lib.hid hq
  have HACTS := Lib.hid hacts
  have HB1 := Lib.hid hb
  have hz1 := hb.size
  have HF := Lib.hid hf
  have HRO := Lib.hid hro
  have HL := Lib.hid hL
  have HAC := Lib.hid hAC
  obtain ⟨W1, hW1⟩ : ∃ x, w1.alloc (.cells #[.int .i64 q.state, .slice ap2 q.args.length cp2, .bool q.priv, .string q.text, .string q.utf] 50) = x := ⟨_, rfl⟩
  have HBW1 : Hid (Below w1.heap.size w1 W1) := Lib.hid (by rw [← hW1]; exact (Below.refl _ _).alloc (Nat.le_refl _) _)
  have hzW1 : w1.heap.size < W1.heap.size := by rw [← hW1]; simp
  have y_0 : W1.cell? ⟨w1.heap.size, 0, none⟩ = some (.int .i64 q.state) := by rw [← hW1]; simp [go_sem]
  have y_1 : W1.cell? ⟨w1.heap.size, 1, none⟩ = some (.slice ap2 q.args.length cp2) := by rw [← hW1]; simp [go_sem]
  have y_2 : W1.cell? ⟨w1.heap.size, 2, none⟩ = some (.bool q.priv) := by rw [← hW1]; simp [go_sem]
  have y_3 : W1.cell? ⟨w1.heap.size, 3, none⟩ = some (.string q.text) := by rw [← hW1]; simp [go_sem]
  have y_4 : W1.cell? ⟨w1.heap.size, 4, none⟩ = some (.string q.utf) := by rw [← hW1]; simp [go_sem]
  have HB01 : Hid (Below W0.heap.size W0 W1) := Lib.hid (HB1.out.trans (HBW1.out.mono hz1))
  have e_0 := kC HB01.out (by omega) a_0
  have e_1 := kC HB01.out (by omega) a_1
  have e_2 := kC HB01.out (by omega) a_2
  have e_3 := kC HB01.out (by omega) a_3
  have e_4 := kC HB01.out (by omega) a_4
  have e_5 := kC HB01.out (by omega) a_5
  have e_6 := kC HB01.out (by omega) a_6
  have e_7 := kC HB01.out (by omega) a_7
  have e_8 := kC HB01.out (by omega) a_8
  have e_9 := kC HB01.out (by omega) a_9
  have e_10 := kC HB01.out (by omega) a_10
  have e_11 := kC HB01.out (by omega) a_11
  have HS1 := Lib.hid (HS0.out.below HB01.out)
  clear hf hro hd hL hb hq hacts hAC
  go_upto_region 2 with fail
  clear hW1
  go_wp2_with fail
  refine (l04Own_c s ac cc ah dh _ HS1.out HCN.out HHN.out).mono ?_
  rintro e w2 ⟨ac2, cc2, ah2, dh2, rfl, hF2, hb2⟩
  obtain ⟨g2, rfl⟩ := hF2.blk HC0.out
  have HF2 := Lib.hid hF2
  have HB2 := Lib.hid hb2
  have hz2 := hb2.size
  obtain ⟨lo, hlo⟩ : ∃ l, W1.heap.size = l := ⟨_, rfl⟩
  unfold scrV
  obtain ⟨b, hb⟩ : ∃ b, w2.heap.size = b := ⟨_, rfl⟩
  obtain ⟨W3, hW3⟩ : ∃ x, w2.alloc (.cells #[.int .i64 (s.w : Int), .int .i64 (s.h : Int), .int .i64 (s.x : Int), .int .i64 (s.y : Int), .int .i64 (s.look : Int), .int .i64 (s.top : Int), .int .i64 (s.bot : Int), .int .i64 (s.sx : Int), .int .i64 (s.sy : Int), .string s.title, .slice (some ⟨g2, 0, none⟩) s.cells.length cc2, .slice ah2 s.hist.length dh2] 84) = x := ⟨_, rfl⟩
  have HA3 : Hid (ScrAt lo b 0 s g2 cc2 ah2 dh2 W3) := Lib.hid (by rw [← hW3, ← hb, ← hlo]; exact ScrAt.box hF2 _)
  have HB23 : Hid (Below w2.heap.size w2 W3) := Lib.hid (by rw [← hW3]; exact (Below.refl _ _).alloc (Nat.le_refl _) _)
  have HB3 : Hid (Below lo W1 W3) := Lib.hid (by rw [← hlo]; exact hb2.trans (HB23.out.mono hz2))
  have hlob : lo ≤ b := by omega
  have HLO := Lib.hid hlo
  have HBB := Lib.hid hb
  clear hF2 hb2 e_0 e_1 e_2 e_3 e_4 e_5 e_6 e_7 e_8 e_9 e_10 e_11
  go_upto_region 3 with fail
  clear hW3 hb
  go_wp2_with fail
  go_loopw [11] (fun iv wr => ∃ i : Nat, i ≤ L.length ∧ iv = .int .i64 i ∧ Hid (∃ g1 c1 a1 d1, ScrAt lo b 0 (actsS s ((L.take i).map (·.A))) g1 c1 a1 d1 wr ∧ Below lo W1 wr)) (fun iv _ => L.length - (intOf iv).toNat)
  case atStart => exact ⟨0, Nat.zero_le _, rfl, Lib.hid ⟨g2, cc2, ah2, dh2, HA3.out, HB3.out⟩⟩
  case round =>
    obtain ⟨i, hi, rfl, HI⟩ := hrel
    obtain ⟨g1, c1, a1, d1, hax, hbx⟩ := HI.out
    obtain ⟨s1, hs1⟩ : ∃ x, actsS s ((L.take i).map (·.A)) = x := ⟨_, rfl⟩
    have hok1 : ScrOK s1 := by
      rw [← hs1]
      exact HOK.out.acts (fun a ha => by
        obtain ⟨r, hr, rfl⟩ := List.mem_map.1 ha
        exact HAC.out r (List.mem_of_mem_take hr))
    rw [hs1] at hax
    have HX := Lib.hid hax
    have HBX := Lib.hid hbx
    have HOK1 := Lib.hid hok1
    have HS1' := Lib.hid hs1
    have hzr := hbx.size
    have hzl := HLO.out
    clear hax hbx hs1 hok1
    have HBW : Hid (Below W1.heap.size W1 wr) := Lib.hid (by rw [HLO.out]; exact HBX.out)
    have hw1r : w1.heap.size < wr.heap.size := by omega
    have HLr : Hid (Sl actE 5 wr al2 L ∧ ∀ r ∈ L, Sl intE 1 wr r.aa r.A.args ∧ ∀ k ∈ blkOf r.aa, k < lo) := Lib.hid ⟨((FreshIn.sl (enc := actE) (sz := 5) (fun _ => rfl) HRO.out.row).keep HBW1.out).keep HBW.out, fun r hr => ⟨((FreshIn.sl (enc := intE) (fun _ => rfl) (HRO.out.ow r hr)).keep HBW1.out).keep HBW.out, fun k hk => by have := (FreshIn.blks (HRO.out.ow r hr) k hk).2; omega⟩⟩
    by_cases hlt : i < L.length
    · have hlt' : (i : Int) < (L.length : Int) := by omega
      obtain ⟨b1, o1, hae, hb1, hc1⟩ := HLr.out.1.at hlt
      subst hae
      obtain ⟨r, hr⟩ : ∃ r, L[i] = r := ⟨_, rfl⟩
      have hrm : r ∈ L := hr ▸ List.getElem_mem hlt
      have HRM := Lib.hid (HLr.out.2 r hrm)
      have HRA := Lib.hid (HAC.out r hrm)
      have r_0 : wr.cell? ⟨b1, o1 + i * 5, none⟩ = some (.int .i64 r.A.kind) := by have := hc1 i hlt 0 (by omega); rw [hr] at this; simpa [actE] using this
      have r_1 : wr.cell? ⟨b1, o1 + i * 5 + 1, none⟩ = some (.int .i64 r.A.n) := by have := hc1 i hlt 1 (by omega); rw [hr] at this; simpa [actE] using this
      have r_2 : wr.cell? ⟨b1, o1 + i * 5 + 2, none⟩ = some (.bool r.A.priv) := by have := hc1 i hlt 2 (by omega); rw [hr] at this; simpa [actE] using this
      have r_3 : wr.cell? ⟨b1, o1 + i * 5 + 3, none⟩ = some (.slice r.aa r.A.args.length r.ca) := by have := hc1 i hlt 3 (by omega); rw [hr] at this; simpa [actE] using this
      have r_4 : wr.cell? ⟨b1, o1 + i * 5 + 4, none⟩ = some (.string r.A.text) := by have := hc1 i hlt 4 (by omega); rw [hr] at this; simpa [actE] using this
      have HTK : Hid (actsS s ((L.take (i + 1)).map (·.A)) = actS s1 r.A) := Lib.hid (by
        rw [List.take_succ_eq_append_getElem hlt, hr, List.map_append, ← HS1'.out]
        unfold actsS
        rw [List.foldl_append]
        rfl)
      have hnaa : ∀ k ∈ blkOf r.aa, k ≠ b ∧ k ≠ g1 ∧ k ∉ blkOf a1 := fun k hk => by
        have h1 := HRM.out.2 k hk
        have h2 := HX.out.glt.1
        refine ⟨by omega, by omega, fun h => ?_⟩
        have := (HX.out.win.blk k h).1
        omega
      have HNAA := Lib.hid hnaa
      clear hc1 hr hrm hnaa
      go_wp2_with fail
      refine (do_c lo b s1 g1 c1 a1 d1 _ r.A r.aa r.ca HX.out HOK1.out (by omega) HRA.out HRM.out.1 HNAA.out).mono ?_
      rintro e x1 ⟨rfl, g3, c3, a3, d3, hx3, hu3, _⟩
      have HX3 := Lib.hid hx3
      have HB3' : Hid (Below lo W1 x1) := Lib.hid (HBX.out.trans (hu3.toBelow (by omega) hlob (fun k hk => by
        rcases hk with h | h
        · rw [h]; exact HX.out.glt.1
        · exact (HX.out.win.blk k h).1)))
      clear hx3 hu3
      go_wp2_with fail
      go_roundw
      case rel => exact ⟨i + 1, by omega, by go_num, Lib.hid ⟨g3, c3, a3, d3, by rw [HTK.out]; exact HX3.out, HB3'.out⟩⟩
      case measure => simp [intOf]; omega
    · obtain rfl : i = L.length := by omega
      have HE : Hid (actsS s acts = s1) := Lib.hid (by rw [← HS1'.out, List.take_length, HL.out])
      go_upto_region 7 with fail
      have f_0 := kC HBW.out hzW1 y_0
      have f_1 := kC HBW.out hzW1 y_1
      have f_2 := kC HBW.out hzW1 y_2
      have f_3 := kC HBW.out hzW1 y_3
      have f_4 := kC HBW.out hzW1 y_4
      have hz02 : w.heap.size + 2 < W0.heap.size := by omega
      have u_0 : wr.cell? ⟨w.heap.size + 2, 0, none⟩ = some (.int .i64 0) := (HBW.out.cell (p := ⟨w.heap.size + 2, 0, none⟩) (by show w.heap.size + 2 < _; omega)).trans ((HB01.out.cell (p := ⟨w.heap.size + 2, 0, none⟩) hz02).trans c_0)
      have u_1 : wr.cell? ⟨w.heap.size + 2, 1, none⟩ = some (.int .i64 0) := (HBW.out.cell (p := ⟨w.heap.size + 2, 1, none⟩) (by show w.heap.size + 2 < _; omega)).trans ((HB01.out.cell (p := ⟨w.heap.size + 2, 1, none⟩) hz02).trans c_1)
      have u_2 : wr.cell? ⟨w.heap.size + 2, 2, none⟩ = some (.int .i64 0) := (HBW.out.cell (p := ⟨w.heap.size + 2, 2, none⟩) (by show w.heap.size + 2 < _; omega)).trans ((HB01.out.cell (p := ⟨w.heap.size + 2, 2, none⟩) hz02).trans c_2)
      have u_3 : wr.cell? ⟨w.heap.size + 2, 3, none⟩ = some (.int .i64 0) := (HBW.out.cell (p := ⟨w.heap.size + 2, 3, none⟩) (by show w.heap.size + 2 < _; omega)).trans ((HB01.out.cell (p := ⟨w.heap.size + 2, 3, none⟩) hz02).trans c_3)
      have u_4 : wr.cell? ⟨w.heap.size + 2, 4, none⟩ = some (.int .i64 0) := (HBW.out.cell (p := ⟨w.heap.size + 2, 4, none⟩) (by show w.heap.size + 2 < _; omega)).trans ((HB01.out.cell (p := ⟨w.heap.size + 2, 4, none⟩) hz02).trans c_4)
      have u_5 : wr.cell? ⟨w.heap.size + 2, 5, none⟩ = some (.int .i64 0) := (HBW.out.cell (p := ⟨w.heap.size + 2, 5, none⟩) (by show w.heap.size + 2 < _; omega)).trans ((HB01.out.cell (p := ⟨w.heap.size + 2, 5, none⟩) hz02).trans c_5)
      have u_6 : wr.cell? ⟨w.heap.size + 2, 6, none⟩ = some (.int .i64 0) := (HBW.out.cell (p := ⟨w.heap.size + 2, 6, none⟩) (by show w.heap.size + 2 < _; omega)).trans ((HB01.out.cell (p := ⟨w.heap.size + 2, 6, none⟩) hz02).trans c_6)
      have u_7 : wr.cell? ⟨w.heap.size + 2, 7, none⟩ = some (.int .i64 0) := (HBW.out.cell (p := ⟨w.heap.size + 2, 7, none⟩) (by show w.heap.size + 2 < _; omega)).trans ((HB01.out.cell (p := ⟨w.heap.size + 2, 7, none⟩) hz02).trans c_7)
      have u_8 : wr.cell? ⟨w.heap.size + 2, 8, none⟩ = some (.int .i64 0) := (HBW.out.cell (p := ⟨w.heap.size + 2, 8, none⟩) (by show w.heap.size + 2 < _; omega)).trans ((HB01.out.cell (p := ⟨w.heap.size + 2, 8, none⟩) hz02).trans c_8)
      have u_9 : wr.cell? ⟨w.heap.size + 2, 9, none⟩ = some (.string ⟨#[]⟩) := (HBW.out.cell (p := ⟨w.heap.size + 2, 9, none⟩) (by show w.heap.size + 2 < _; omega)).trans ((HB01.out.cell (p := ⟨w.heap.size + 2, 9, none⟩) hz02).trans c_9)
      have u_10 : wr.cell? ⟨w.heap.size + 2, 10, none⟩ = some (.slice none 0 0) := (HBW.out.cell (p := ⟨w.heap.size + 2, 10, none⟩) (by show w.heap.size + 2 < _; omega)).trans ((HB01.out.cell (p := ⟨w.heap.size + 2, 10, none⟩) hz02).trans c_10)
      have u_11 : wr.cell? ⟨w.heap.size + 2, 11, none⟩ = some (.slice none 0 0) := (HBW.out.cell (p := ⟨w.heap.size + 2, 11, none⟩) (by show w.heap.size + 2 < _; omega)).trans ((HB01.out.cell (p := ⟨w.heap.size + 2, 11, none⟩) hz02).trans c_11)
      have u_f : ∀ o, wr.frozen? ⟨w.heap.size + 2, o, none⟩ = false := fun o => (HBW.out.frozen (p := ⟨w.heap.size + 2, o, none⟩) (by show w.heap.size + 2 < _; omega)).trans ((HB01.out.frozen (p := ⟨w.heap.size + 2, o, none⟩) hz02).trans (c_f o))
      have v_0 : wr.cell? ⟨w.heap.size + 3, 0, none⟩ = some (.int .i64 0) := (HBW.out.cell (p := ⟨w.heap.size + 3, 0, none⟩) (by show w.heap.size + 3 < _; omega)).trans ((HB01.out.cell (p := ⟨w.heap.size + 3, 0, none⟩) hz0).trans d_0)
      have v_1 : wr.cell? ⟨w.heap.size + 3, 1, none⟩ = some (.slice none 0 0) := (HBW.out.cell (p := ⟨w.heap.size + 3, 1, none⟩) (by show w.heap.size + 3 < _; omega)).trans ((HB01.out.cell (p := ⟨w.heap.size + 3, 1, none⟩) hz0).trans d_1)
      have v_2 : wr.cell? ⟨w.heap.size + 3, 2, none⟩ = some (.bool false) := (HBW.out.cell (p := ⟨w.heap.size + 3, 2, none⟩) (by show w.heap.size + 3 < _; omega)).trans ((HB01.out.cell (p := ⟨w.heap.size + 3, 2, none⟩) hz0).trans d_2)
      have v_3 : wr.cell? ⟨w.heap.size + 3, 3, none⟩ = some (.string ⟨#[]⟩) := (HBW.out.cell (p := ⟨w.heap.size + 3, 3, none⟩) (by show w.heap.size + 3 < _; omega)).trans ((HB01.out.cell (p := ⟨w.heap.size + 3, 3, none⟩) hz0).trans d_3)
      have v_4 : wr.cell? ⟨w.heap.size + 3, 4, none⟩ = some (.string ⟨#[]⟩) := (HBW.out.cell (p := ⟨w.heap.size + 3, 4, none⟩) (by show w.heap.size + 3 < _; omega)).trans ((HB01.out.cell (p := ⟨w.heap.size + 3, 4, none⟩) hz0).trans d_4)
      have v_f : ∀ o, wr.frozen? ⟨w.heap.size + 3, o, none⟩ = false := fun o => (HBW.out.frozen (p := ⟨w.heap.size + 3, o, none⟩) (by show w.heap.size + 3 < _; omega)).trans ((HB01.out.frozen (p := ⟨w.heap.size + 3, o, none⟩) hz0).trans (d_f o))
      have k_0 := HX.out.e0
      have k_1 := HX.out.e1
      have k_2 := HX.out.e2
      have k_3 := HX.out.e3
      have k_4 := HX.out.e4
      have k_5 := HX.out.e5
      have k_6 := HX.out.e6
      have k_7 := HX.out.e7
      have k_8 := HX.out.e8
      have k_9 := HX.out.e9
      have k_10 := HX.out.e10
      have k_11 := HX.out.e11
      have k_f := HX.out.fz
      have k_l := HX.out.lt
      have hSc1 := And.intro k_0 (And.intro k_1 (And.intro k_2 (And.intro k_3 (And.intro k_4 (And.intro k_5 (And.intro k_6 (And.intro k_7 (And.intro k_8 (And.intro k_9 (And.intro k_10 (And.intro k_11 (And.intro f_0 (And.intro f_1 (And.intro f_2 (And.intro f_3 f_4)))))))))))))))
      refine wp_region_G (fun w' => w'.cell? ⟨b, 0, none⟩ = some (.int .i64 (s1.w : Int)) ∧ w'.cell? ⟨b, 1, none⟩ = some (.int .i64 (s1.h : Int)) ∧ w'.cell? ⟨b, 2, none⟩ = some (.int .i64 (s1.x : Int)) ∧ w'.cell? ⟨b, 3, none⟩ = some (.int .i64 (s1.y : Int)) ∧ w'.cell? ⟨b, 4, none⟩ = some (.int .i64 (s1.look : Int)) ∧ w'.cell? ⟨b, 5, none⟩ = some (.int .i64 (s1.top : Int)) ∧ w'.cell? ⟨b, 6, none⟩ = some (.int .i64 (s1.bot : Int)) ∧ w'.cell? ⟨b, 7, none⟩ = some (.int .i64 (s1.sx : Int)) ∧ w'.cell? ⟨b, 8, none⟩ = some (.int .i64 (s1.sy : Int)) ∧ w'.cell? ⟨b, 9, none⟩ = some (.string s1.title) ∧ w'.cell? ⟨b, 10, none⟩ = some (.slice (some ⟨g1, 0, none⟩) s1.cells.length c1) ∧ w'.cell? ⟨b, 11, none⟩ = some (.slice a1 s1.hist.length d1) ∧ w'.cell? ⟨w1.heap.size, 0, none⟩ = some (.int .i64 q.state) ∧ w'.cell? ⟨w1.heap.size, 1, none⟩ = some (.slice ap2 q.args.length cp2) ∧ w'.cell? ⟨w1.heap.size, 2, none⟩ = some (.bool q.priv) ∧ w'.cell? ⟨w1.heap.size, 3, none⟩ = some (.string q.text) ∧ w'.cell? ⟨w1.heap.size, 4, none⟩ = some (.string q.utf)) (fun i => i == 7) (by kernel_rfl) hSc1 ?_
      refine tW ?_ 0 rfl ?_ ?_; rotate_left
      · intro w' hSw; go_simp; try rfl
      try simp only [Act.put,j1,j2,j3,j4,j5,j6]
      refine tW ?_ 1 rfl ?_ ?_; rotate_left
      · intro w' hSw; go_simp; try rfl
      try simp only [Act.put,j1,j2,j3,j4,j5,j6]
      refine tW ?_ 2 rfl ?_ ?_; rotate_left
      · intro w' hSw; go_simp; try rfl
      try simp only [Act.put,j1,j2,j3,j4,j5,j6]
      refine tL ?_ 3 rfl hSc1 ?_ ?_; rotate_left
      · intro w' hSw; obtain ⟨s0, s1, s2, s3, s4, s5, s6, s7, s8, s9, s10, s11, s12, s13, s14, s15, s16⟩ := hSw; go_simp; try rfl
      try simp only [Act.put,j1,j2,j3,j4,j5,j6]
      refine tL ?_ 5 rfl hSc1 ?_ ?_; rotate_left
      · intro w' hSw; obtain ⟨s0, s1, s2, s3, s4, s5, s6, s7, s8, s9, s10, s11, s12, s13, s14, s15, s16⟩ := hSw; go_simp; try rfl
      try simp only [Act.put,j1,j2,j3,j4,j5,j6]
      refine wpAnyG_one (i := 4) (by kernel_rfl) rfl hSc1 (fun K' hK => ?_)
      simp only [j1,j2,j3]
      go_simp
      refine (l04Own_c s1 (some ⟨g1, 0, none⟩) c1 a1 d1 _ HX.out.drew.rd (by rw [HOK1.out.cn]; exact Nat.mul_le_mul HOK1.out.w2 HOK1.out.h2) HOK1.out.hn).mono ?_
      rintro e x1 ⟨ac3, cc3, ah3, dh3, rfl, hF3, hb3⟩
      have HB3x : Hid (Below wr.heap.size wr x1) := Lib.hid (((Below.refl _ _).drew).trans hb3)
      have HF3 : Hid (ScrF wr.heap.size s1 ac3 cc3 ah3 dh3 x1) := Lib.hid hF3
      have hzx := HB3x.out.size
      have HX1 := Lib.hid (HX.out.below HB3x.out)
      clear hF3 hb3
      unfold scrV
      have hSx : x1.cell? ⟨b, 0, none⟩ = some (.int .i64 (s1.w : Int)) ∧ x1.cell? ⟨b, 1, none⟩ = some (.int .i64 (s1.h : Int)) ∧ x1.cell? ⟨b, 2, none⟩ = some (.int .i64 (s1.x : Int)) ∧ x1.cell? ⟨b, 3, none⟩ = some (.int .i64 (s1.y : Int)) ∧ x1.cell? ⟨b, 4, none⟩ = some (.int .i64 (s1.look : Int)) ∧ x1.cell? ⟨b, 5, none⟩ = some (.int .i64 (s1.top : Int)) ∧ x1.cell? ⟨b, 6, none⟩ = some (.int .i64 (s1.bot : Int)) ∧ x1.cell? ⟨b, 7, none⟩ = some (.int .i64 (s1.sx : Int)) ∧ x1.cell? ⟨b, 8, none⟩ = some (.int .i64 (s1.sy : Int)) ∧ x1.cell? ⟨b, 9, none⟩ = some (.string s1.title) ∧ x1.cell? ⟨b, 10, none⟩ = some (.slice (some ⟨g1, 0, none⟩) s1.cells.length c1) ∧ x1.cell? ⟨b, 11, none⟩ = some (.slice a1 s1.hist.length d1) ∧ x1.cell? ⟨w1.heap.size, 0, none⟩ = some (.int .i64 q.state) ∧ x1.cell? ⟨w1.heap.size, 1, none⟩ = some (.slice ap2 q.args.length cp2) ∧ x1.cell? ⟨w1.heap.size, 2, none⟩ = some (.bool q.priv) ∧ x1.cell? ⟨w1.heap.size, 3, none⟩ = some (.string q.text) ∧ x1.cell? ⟨w1.heap.size, 4, none⟩ = some (.string q.utf) := ⟨HX1.out.c0, HX1.out.c1, HX1.out.c2, HX1.out.c3, HX1.out.c4, HX1.out.c5, HX1.out.c6, HX1.out.c7, HX1.out.c8, HX1.out.c9, HX1.out.c10, HX1.out.c11, (HB3x.out.cell (p := ⟨w1.heap.size, 0, none⟩) hw1r).trans f_0, (HB3x.out.cell (p := ⟨w1.heap.size, 1, none⟩) hw1r).trans f_1, (HB3x.out.cell (p := ⟨w1.heap.size, 2, none⟩) hw1r).trans f_2, (HB3x.out.cell (p := ⟨w1.heap.size, 3, none⟩) hw1r).trans f_3, (HB3x.out.cell (p := ⟨w1.heap.size, 4, none⟩) hw1r).trans f_4⟩
      have p6_0 := kC HB3x.out (by omega) u_0
      have p6_1 := kC HB3x.out (by omega) u_1
      have p6_2 := kC HB3x.out (by omega) u_2
      have p6_3 := kC HB3x.out (by omega) u_3
      have p6_4 := kC HB3x.out (by omega) u_4
      have p6_5 := kC HB3x.out (by omega) u_5
      have p6_6 := kC HB3x.out (by omega) u_6
      have p6_7 := kC HB3x.out (by omega) u_7
      have p6_8 := kC HB3x.out (by omega) u_8
      have p6_9 := kC HB3x.out (by omega) u_9
      have p6_10 := kC HB3x.out (by omega) u_10
      have p6_11 := kC HB3x.out (by omega) u_11
      have p6_f : ∀ o, x1.frozen? ⟨w.heap.size + 2, o, none⟩ = false := fun o => (HB3x.out.frozen (p := ⟨w.heap.size + 2, o, none⟩) (by show w.heap.size + 2 < _; omega)).trans (u_f o)
      have p7_0 := kC HB3x.out (by omega) v_0
      have p7_1 := kC HB3x.out (by omega) v_1
      have p7_2 := kC HB3x.out (by omega) v_2
      have p7_3 := kC HB3x.out (by omega) v_3
      have p7_4 := kC HB3x.out (by omega) v_4
      have p7_f : ∀ o, x1.frozen? ⟨w.heap.size + 3, o, none⟩ = false := fun o => (HB3x.out.frozen (p := ⟨w.heap.size + 3, o, none⟩) (by show w.heap.size + 3 < _; omega)).trans (v_f o)
      have p6_l : w.heap.size + 2 < x1.heap.size := by omega
      have p7_l : w.heap.size + 3 < x1.heap.size := by omega
      refine hK.out _ _ (Or.inr hSx) ?_
      clear hK K'
      try simp only [Act.put,j1,j2,j3,j4,j5,j6]
      refine wpAnyG_one (i := 6) (by kernel_rfl) rfl hSx (fun K' hK => ?_)
      simp only [j1,j2,j3]
      go_simp
      obtain ⟨x2, hx2⟩ : ∃ x, ((((((((((((x1.setCell ⟨w.heap.size + 1 + 1, 0, none⟩ (.int .i64 (s1.w : Int))).setCell ⟨w.heap.size + 1 + 1, 1, none⟩ (.int .i64 (s1.h : Int))).setCell ⟨w.heap.size + 1 + 1, 2, none⟩ (.int .i64 (s1.x : Int))).setCell ⟨w.heap.size + 1 + 1, 3, none⟩ (.int .i64 (s1.y : Int))).setCell ⟨w.heap.size + 1 + 1, 4, none⟩ (.int .i64 (s1.look : Int))).setCell ⟨w.heap.size + 1 + 1, 5, none⟩ (.int .i64 (s1.top : Int))).setCell ⟨w.heap.size + 1 + 1, 6, none⟩ (.int .i64 (s1.bot : Int))).setCell ⟨w.heap.size + 1 + 1, 7, none⟩ (.int .i64 (s1.sx : Int))).setCell ⟨w.heap.size + 1 + 1, 8, none⟩ (.int .i64 (s1.sy : Int))).setCell ⟨w.heap.size + 1 + 1, 9, none⟩ (.string s1.title)).setCell ⟨w.heap.size + 1 + 1, 10, none⟩ (.slice ac3 s1.cells.length cc3)).setCell ⟨w.heap.size + 1 + 1, 11, none⟩ (.slice ah3 s1.hist.length dh3)) = x := ⟨_, rfl⟩
      have HC2 : Hid (Ch (· = w.heap.size + 2) x1 x2) := Lib.hid (by rw [← hx2]; exact (((((((((((Ch.set1' _ _ 0 _).trans (Ch.set1' _ _ 1 _) (fun _ h => .inl h)).trans (Ch.set1' _ _ 2 _) (fun _ h => .inl h)).trans (Ch.set1' _ _ 3 _) (fun _ h => .inl h)).trans (Ch.set1' _ _ 4 _) (fun _ h => .inl h)).trans (Ch.set1' _ _ 5 _) (fun _ h => .inl h)).trans (Ch.set1' _ _ 6 _) (fun _ h => .inl h)).trans (Ch.set1' _ _ 7 _) (fun _ h => .inl h)).trans (Ch.set1' _ _ 8 _) (fun _ h => .inl h)).trans (Ch.set1' _ _ 9 _) (fun _ h => .inl h)).trans (Ch.set1' _ _ 10 _) (fun _ h => .inl h)).trans (Ch.set1' _ _ 11 _) (fun _ h => .inl h))
      have t_0 : x2.cell? ⟨w.heap.size + 2, 0, none⟩ = some (.int .i64 (s1.w : Int)) := by rw [← hx2]; simp [go_sem, p6_0, p6_1, p6_2, p6_3, p6_4, p6_5, p6_6, p6_7, p6_8, p6_9, p6_10, p6_11, p6_l]
      have t_1 : x2.cell? ⟨w.heap.size + 2, 1, none⟩ = some (.int .i64 (s1.h : Int)) := by rw [← hx2]; simp [go_sem, p6_0, p6_1, p6_2, p6_3, p6_4, p6_5, p6_6, p6_7, p6_8, p6_9, p6_10, p6_11, p6_l]
      have t_2 : x2.cell? ⟨w.heap.size + 2, 2, none⟩ = some (.int .i64 (s1.x : Int)) := by rw [← hx2]; simp [go_sem, p6_0, p6_1, p6_2, p6_3, p6_4, p6_5, p6_6, p6_7, p6_8, p6_9, p6_10, p6_11, p6_l]
      have t_3 : x2.cell? ⟨w.heap.size + 2, 3, none⟩ = some (.int .i64 (s1.y : Int)) := by rw [← hx2]; simp [go_sem, p6_0, p6_1, p6_2, p6_3, p6_4, p6_5, p6_6, p6_7, p6_8, p6_9, p6_10, p6_11, p6_l]
      have t_4 : x2.cell? ⟨w.heap.size + 2, 4, none⟩ = some (.int .i64 (s1.look : Int)) := by rw [← hx2]; simp [go_sem, p6_0, p6_1, p6_2, p6_3, p6_4, p6_5, p6_6, p6_7, p6_8, p6_9, p6_10, p6_11, p6_l]
      have t_5 : x2.cell? ⟨w.heap.size + 2, 5, none⟩ = some (.int .i64 (s1.top : Int)) := by rw [← hx2]; simp [go_sem, p6_0, p6_1, p6_2, p6_3, p6_4, p6_5, p6_6, p6_7, p6_8, p6_9, p6_10, p6_11, p6_l]
      have t_6 : x2.cell? ⟨w.heap.size + 2, 6, none⟩ = some (.int .i64 (s1.bot : Int)) := by rw [← hx2]; simp [go_sem, p6_0, p6_1, p6_2, p6_3, p6_4, p6_5, p6_6, p6_7, p6_8, p6_9, p6_10, p6_11, p6_l]
      have t_7 : x2.cell? ⟨w.heap.size + 2, 7, none⟩ = some (.int .i64 (s1.sx : Int)) := by rw [← hx2]; simp [go_sem, p6_0, p6_1, p6_2, p6_3, p6_4, p6_5, p6_6, p6_7, p6_8, p6_9, p6_10, p6_11, p6_l]
      have t_8 : x2.cell? ⟨w.heap.size + 2, 8, none⟩ = some (.int .i64 (s1.sy : Int)) := by rw [← hx2]; simp [go_sem, p6_0, p6_1, p6_2, p6_3, p6_4, p6_5, p6_6, p6_7, p6_8, p6_9, p6_10, p6_11, p6_l]
      have t_9 : x2.cell? ⟨w.heap.size + 2, 9, none⟩ = some (.string s1.title) := by rw [← hx2]; simp [go_sem, p6_0, p6_1, p6_2, p6_3, p6_4, p6_5, p6_6, p6_7, p6_8, p6_9, p6_10, p6_11, p6_l]
      have t_10 : x2.cell? ⟨w.heap.size + 2, 10, none⟩ = some (.slice ac3 s1.cells.length cc3) := by rw [← hx2]; simp [go_sem, p6_0, p6_1, p6_2, p6_3, p6_4, p6_5, p6_6, p6_7, p6_8, p6_9, p6_10, p6_11, p6_l]
      have t_11 : x2.cell? ⟨w.heap.size + 2, 11, none⟩ = some (.slice ah3 s1.hist.length dh3) := by rw [← hx2]; simp [go_sem, p6_0, p6_1, p6_2, p6_3, p6_4, p6_5, p6_6, p6_7, p6_8, p6_9, p6_10, p6_11, p6_l]
      have hzx2 := HC2.out.size
      have t_l : w.heap.size + 2 < x2.heap.size := by omega
      have p8_0 : x2.cell? ⟨w.heap.size + 3, 0, none⟩ = some (.int .i64 0) := (HC2.out.cell (p := ⟨w.heap.size + 3, 0, none⟩) p7_l (by show ¬ w.heap.size + 3 = w.heap.size + 2; omega)).trans p7_0
      have p8_1 : x2.cell? ⟨w.heap.size + 3, 1, none⟩ = some (.slice none 0 0) := (HC2.out.cell (p := ⟨w.heap.size + 3, 1, none⟩) p7_l (by show ¬ w.heap.size + 3 = w.heap.size + 2; omega)).trans p7_1
      have p8_2 : x2.cell? ⟨w.heap.size + 3, 2, none⟩ = some (.bool false) := (HC2.out.cell (p := ⟨w.heap.size + 3, 2, none⟩) p7_l (by show ¬ w.heap.size + 3 = w.heap.size + 2; omega)).trans p7_2
      have p8_3 : x2.cell? ⟨w.heap.size + 3, 3, none⟩ = some (.string ⟨#[]⟩) := (HC2.out.cell (p := ⟨w.heap.size + 3, 3, none⟩) p7_l (by show ¬ w.heap.size + 3 = w.heap.size + 2; omega)).trans p7_3
      have p8_4 : x2.cell? ⟨w.heap.size + 3, 4, none⟩ = some (.string ⟨#[]⟩) := (HC2.out.cell (p := ⟨w.heap.size + 3, 4, none⟩) p7_l (by show ¬ w.heap.size + 3 = w.heap.size + 2; omega)).trans p7_4
      have p8_f : ∀ o, x2.frozen? ⟨w.heap.size + 3, o, none⟩ = false := fun o => (HC2.out.frozen (p := ⟨w.heap.size + 3, o, none⟩) p7_l (by show ¬ w.heap.size + 3 = w.heap.size + 2; omega)).trans (p7_f o)
      have p8_l : w.heap.size + 3 < x2.heap.size := by omega
      have hS2 : x2.cell? ⟨b, 0, none⟩ = some (.int .i64 (s1.w : Int)) ∧ x2.cell? ⟨b, 1, none⟩ = some (.int .i64 (s1.h : Int)) ∧ x2.cell? ⟨b, 2, none⟩ = some (.int .i64 (s1.x : Int)) ∧ x2.cell? ⟨b, 3, none⟩ = some (.int .i64 (s1.y : Int)) ∧ x2.cell? ⟨b, 4, none⟩ = some (.int .i64 (s1.look : Int)) ∧ x2.cell? ⟨b, 5, none⟩ = some (.int .i64 (s1.top : Int)) ∧ x2.cell? ⟨b, 6, none⟩ = some (.int .i64 (s1.bot : Int)) ∧ x2.cell? ⟨b, 7, none⟩ = some (.int .i64 (s1.sx : Int)) ∧ x2.cell? ⟨b, 8, none⟩ = some (.int .i64 (s1.sy : Int)) ∧ x2.cell? ⟨b, 9, none⟩ = some (.string s1.title) ∧ x2.cell? ⟨b, 10, none⟩ = some (.slice (some ⟨g1, 0, none⟩) s1.cells.length c1) ∧ x2.cell? ⟨b, 11, none⟩ = some (.slice a1 s1.hist.length d1) ∧ x2.cell? ⟨w1.heap.size, 0, none⟩ = some (.int .i64 q.state) ∧ x2.cell? ⟨w1.heap.size, 1, none⟩ = some (.slice ap2 q.args.length cp2) ∧ x2.cell? ⟨w1.heap.size, 2, none⟩ = some (.bool q.priv) ∧ x2.cell? ⟨w1.heap.size, 3, none⟩ = some (.string q.text) ∧ x2.cell? ⟨w1.heap.size, 4, none⟩ = some (.string q.utf) := ⟨(HC2.out.cell (p := ⟨b, 0, none⟩) HX1.out.lt (by show ¬ b = w.heap.size + 2; omega)).trans HX1.out.c0, (HC2.out.cell (p := ⟨b, 1, none⟩) HX1.out.lt (by show ¬ b = w.heap.size + 2; omega)).trans HX1.out.c1, (HC2.out.cell (p := ⟨b, 2, none⟩) HX1.out.lt (by show ¬ b = w.heap.size + 2; omega)).trans HX1.out.c2, (HC2.out.cell (p := ⟨b, 3, none⟩) HX1.out.lt (by show ¬ b = w.heap.size + 2; omega)).trans HX1.out.c3, (HC2.out.cell (p := ⟨b, 4, none⟩) HX1.out.lt (by show ¬ b = w.heap.size + 2; omega)).trans HX1.out.c4, (HC2.out.cell (p := ⟨b, 5, none⟩) HX1.out.lt (by show ¬ b = w.heap.size + 2; omega)).trans HX1.out.c5, (HC2.out.cell (p := ⟨b, 6, none⟩) HX1.out.lt (by show ¬ b = w.heap.size + 2; omega)).trans HX1.out.c6, (HC2.out.cell (p := ⟨b, 7, none⟩) HX1.out.lt (by show ¬ b = w.heap.size + 2; omega)).trans HX1.out.c7, (HC2.out.cell (p := ⟨b, 8, none⟩) HX1.out.lt (by show ¬ b = w.heap.size + 2; omega)).trans HX1.out.c8, (HC2.out.cell (p := ⟨b, 9, none⟩) HX1.out.lt (by show ¬ b = w.heap.size + 2; omega)).trans HX1.out.c9, (HC2.out.cell (p := ⟨b, 10, none⟩) HX1.out.lt (by show ¬ b = w.heap.size + 2; omega)).trans HX1.out.c10, (HC2.out.cell (p := ⟨b, 11, none⟩) HX1.out.lt (by show ¬ b = w.heap.size + 2; omega)).trans HX1.out.c11, (HC2.out.cell (p := ⟨w1.heap.size, 0, none⟩) (by show w1.heap.size < _; omega) (by show ¬ w1.heap.size = w.heap.size + 2; omega)).trans hSx.2.2.2.2.2.2.2.2.2.2.2.2.1, (HC2.out.cell (p := ⟨w1.heap.size, 1, none⟩) (by show w1.heap.size < _; omega) (by show ¬ w1.heap.size = w.heap.size + 2; omega)).trans hSx.2.2.2.2.2.2.2.2.2.2.2.2.2.1, (HC2.out.cell (p := ⟨w1.heap.size, 2, none⟩) (by show w1.heap.size < _; omega) (by show ¬ w1.heap.size = w.heap.size + 2; omega)).trans hSx.2.2.2.2.2.2.2.2.2.2.2.2.2.2.1, (HC2.out.cell (p := ⟨w1.heap.size, 3, none⟩) (by show w1.heap.size < _; omega) (by show ¬ w1.heap.size = w.heap.size + 2; omega)).trans hSx.2.2.2.2.2.2.2.2.2.2.2.2.2.2.2.1, (HC2.out.cell (p := ⟨w1.heap.size, 4, none⟩) (by show w1.heap.size < _; omega) (by show ¬ w1.heap.size = w.heap.size + 2; omega)).trans hSx.2.2.2.2.2.2.2.2.2.2.2.2.2.2.2.2⟩
      rw [hx2]
      clear hx2 hSx p6_0 p6_1 p6_2 p6_3 p6_4 p6_5 p6_6 p6_7 p6_8 p6_9 p6_10 p6_11 p6_f p6_l p7_0 p7_1 p7_2 p7_3 p7_4 p7_f p7_l
      refine hK.out _ _ (Or.inr hS2) ?_
      clear hK K'
      try simp only [Act.put,j1,j2,j3,j4,j5,j6]
      refine wpAnyG_one (i := 7) (by kernel_rfl) rfl hS2 (fun K' hK => ?_)
      simp only [j1,j2,j3]
      go_simp
      refine hK.out _ _ (Or.inl rfl) ?_
      clear hK K'
      try simp only [Act.put,j1,j2,j3,j4,j5,j6]
      refine wpAnyG_done (by kernel_rfl) ?_ _
      have nn : ¬ w.heap.size + 2 = w.heap.size + 3 := by omega
      have nm : ¬ w.heap.size + 3 = w.heap.size + 2 := by omega
      go_wp2_with fail
      refine bodyPost_ret (v := .tuple #[scrV s1 ac3 cc3 ah3 dh3, .agg #[.int .i64 q.state, .slice ap2 q.args.length cp2, .bool q.priv, .string q.text, .string q.utf]]) (by simp [results, Try.results22, scrV, go_sem, t_0, t_1, t_2, t_3, t_4, t_5, t_6, t_7, t_8, t_9, t_10, t_11, t_l, p8_0, p8_1, p8_2, p8_3, p8_4, p8_l, nn, nm]) rfl ?_
      rw [HACTS.out, HQ.out, HE.out]
      have hfin : ∀ wz, Ch (· = w.heap.size + 3) x2 wz → FeedR s1 q w (.returned (.tuple #[scrV s1 ac3 cc3 ah3 dh3, .agg #[.int .i64 q.state, .slice ap2 q.args.length cp2, .bool q.priv, .string q.text, .string q.utf]])) wz := fun wz hc => by
        have h1 : Below w.heap.size w x1 := (((HB0.out.trans (HB1.out.mono (by omega))).trans (HBW1.out.mono (by omega))).trans (HBW.out.mono (by omega))).trans (HB3x.out.mono (by omega))
        have h2 : Ch (fun k => k = w.heap.size + 2 ∨ k = w.heap.size + 3) x1 wz := (HC2.out.mono (fun i h => .inl (.inl h))).trans hc (fun i h => .inl (.inr h))
        have hfb := FreshIn.blks HF.out
        have f1 := ((HF.out.keepB HBW1.out).keepB HBW.out).keepB HB3x.out
        have fc := FreshIn.blks HF3.out.row
        have fh := HF3.out.win.blk
        refine ⟨ac3, cc3, ah3, dh3, ap2, cp2, rfl, (HF3.out.low (by omega)).ch h2 (fun k hk e => by have := (fc k hk).1; omega) (fun k hk e => by have := (fh k hk).1; omega), (f1.ch h2 (fun k hk e => by have := (hfb k hk).1; omega)).mono (by omega) (Nat.le_refl _), fun k hk => ⟨fun h => ?_, fun h => ?_⟩, h1.trans (h2.below (by omega) (fun k h => by omega))⟩
        · have := (hfb k hk).2; have := (fc k h).1; omega
        · have := (hfb k hk).2; have := (fh k h).1; omega
      refine hfin _ ?_
      exact ((((Ch.set1' _ _ 0 _).trans (Ch.set1' _ _ 1 _) (fun _ h => .inl h)).trans (Ch.set1' _ _ 2 _) (fun _ h => .inl h)).trans (Ch.set1' _ _ 3 _) (fun _ h => .inl h)).trans (Ch.set1' _ _ 4 _) (fun _ h => .inl h)
end
section
open Go.RowKit
theorem SrcAt.alloc {b K c : Nat} {a : Option Addr} {xs : List UInt8} {w : World} (h : SrcAt b a c xs K w) (o : Obj) : SrcAt b a c xs K (w.alloc o) := h.below ((Below.refl _ _).alloc (Nat.le_refl _) _)
theorem Mid.alloc {lo hi : Nat} {a w : World} (h : Mid lo hi a w) (o : Obj) : Mid lo hi a (w.alloc o) := h.trans (Mid.of_below _ _ ((Below.refl _ _).alloc (Nat.le_refl _) _))
theorem l00Source_c (a : Option Addr) (c : Nat) (xs : List UInt8) (w : World) (ha : Sl byteE 1 w a xs) (hl : xs.length ≤ 1048576) :
    Calls Try.prog 11 #[.slice a xs.length c] w fun e w' => e = .returned (.pointer (some ⟨w.heap.size, 0, none⟩)) ∧ SrcAt w.heap.size a c xs 0 w' ∧ Below w.heap.size w w' := by
  have HA := Lib.hid ha
  clear ha
  have hm : xs.length % 1000 < 1000 := Nat.mod_lt _ (by omega)
  have HM : Hid (((xs.length : Int) % 1000) = ((xs.length % 1000 : Nat) : Int)) := Lib.hid (by omega)
  go_enter Try.func11, Try.ntmps11
  go_wp2_with fail
  go_ret
  rw [HM.out]
  generalize xs.length % 1000 = q at hm ⊢
  refine ⟨rfl, ⟨0, q, hl, Nat.le_refl _, by omega, World.cell?_alloc_new _ _ _ _, World.cell?_alloc_new _ _ _ _, World.cell?_alloc_new _ _ _ _, fun o => by simp [go_sem], HA.out.alloc _, fun b' o e => ?_, by simp⟩, (Below.refl _ _).alloc (Nat.le_refl _) _⟩
  rcases HA.out with h | ⟨b2, o2, he, hlt, _⟩
  · exact .inl h
  · rw [he] at e
    cases e
    exact .inr (by omega)
def outL : List ByteArray := [⟨#[116, 101, 120, 116]⟩, ⟨#[97]⟩, ⟨#[13, 10]⟩, ⟨#[10]⟩, ⟨#[8]⟩, ⟨#[9]⟩, ⟨#[27, 91, 72]⟩, ⟨#[27, 91, 50, 74]⟩, ⟨#[27, 91, 75]⟩, ⟨#[27, 91, 49, 59, 51, 49, 109]⟩, ⟨#[27, 91, 48, 109]⟩, ⟨#[27, 91, 51, 59, 50, 72]⟩, ⟨#[27, 91, 50, 65]⟩, ⟨#[27, 91, 66]⟩, ⟨#[27, 91, 53, 67]⟩, ⟨#[27, 91, 68]⟩, ⟨#[27, 91, 50, 59, 52, 114]⟩, ⟨#[27, 91, 114]⟩, ⟨#[27, 91, 76]⟩, ⟨#[27, 91, 50, 77]⟩, ⟨#[27, 55]⟩, ⟨#[27, 56]⟩, ⟨#[27, 68]⟩, ⟨#[27, 77]⟩, ⟨#[27, 69]⟩, ⟨#[27, 99]⟩, ⟨#[27, 93, 48, 59, 116, 105, 116, 108, 101, 7]⟩, ⟨#[27, 93, 120, 27, 92]⟩, ⟨#[195, 164]⟩, ⟨#[226, 130, 172]⟩, ⟨#[240, 159, 152, 128]⟩, ⟨#[128]⟩, ⟨#[226, 40]⟩, ⟨#[27, 91, 63, 50, 53, 104]⟩, ⟨#[27, 91, 49, 59, 50, 59, 51, 59, 52, 59, 53, 59, 54, 59, 55, 59, 56, 59, 57, 109]⟩, ⟨#[27, 91, 57, 57, 57, 57, 57, 65]⟩, ⟨#[27, 91, 49, 36, 120]⟩, ⟨#[7]⟩, ⟨#[27, 91, 83]⟩, ⟨#[27, 91, 84]⟩, ⟨#[27, 91, 49, 74]⟩, ⟨#[27, 91, 49, 75]⟩, ⟨#[119, 114, 97, 112, 32, 97, 114, 111, 117, 110, 100, 32, 105, 116]⟩]
theorem outL_size : ∀ s ∈ outL, 1 ≤ s.size ∧ s.size ≤ 20 := by
  have h : outL.all (fun s => decide (1 ≤ s.size ∧ s.size ≤ 20)) = true := by decide
  intro s hs
  simpa using (List.all_eq_true.1 h) s hs
def TextR (b : Nat) (a : Option Addr) (c : Nat) (xs : List UInt8) (K : Nat) (P : ByteArray → Prop) (w : World) (e : Ending) (w' : World) : Prop := ∃ s : ByteArray, P s ∧ e = .returned (.string s) ∧ SrcAt b a c xs K w' ∧ Mid b (b + 1) w w'
theorem srcOutput_c (b : Nat) (a : Option Addr) (c : Nat) (xs : List UInt8) (K : Nat) (w : World) (h : SrcAt b a c xs K w) (hK : K ≤ 1000000000) :
    Calls Try.prog 23 #[.pointer (some ⟨b, 0, none⟩)] w (TextR b a c xs (K + 9) (fun s => 1 ≤ s.size ∧ s.size ≤ 200) w) := by
  have HN := Lib.hid (srcNext_c b a c xs K 8 w h (by omega) (by omega) (by omega))
  have hb0 : b < w.heap.size := h.lt
  clear h
  go_enter Try.func23, Try.ntmps23
  go_wp2_with fail
  refine HN.out.mono ?_
  rintro e w1 ⟨m, hm, rfl, hs1, hm1⟩
  have ew : IntKind.i64.wrap (1 + (m : Int)) = 1 + (m : Int) := IntWalk.i64_in _ ⟨by omega, by omega⟩
  have HS1 := Lib.hid hs1
  have HM1 := Lib.hid hm1
  clear hs1 hm1
  go_wp2_with fail
  go_loopw [3, 4] (fun ov iv wr => ∃ (s : ByteArray) (i : Nat), ov = .string s ∧ iv = .int .i64 i ∧ i ≤ 8 ∧ s.size + 20 * i ≤ 160 ∧ Hid (i = 0 → 1 ≤ s.size) ∧ SrcAt b a c xs (K + 9 - i) wr ∧ Mid b (b + 1) w wr) (fun _ iv _ => (intOf iv).toNat)
  case atStart => exact ⟨⟨#[]⟩, 1 + m, rfl, (by first | rfl | (simp) | (congr 1; omega)), by omega, (by show 0 + _ ≤ _; omega), Lib.hid (fun h => by omega), HS1.out.mono (by omega), HM1.out⟩
  case round =>
    obtain ⟨s, i, rfl, rfl, hi8, hsz, hpos, hsrc, hmid⟩ := hrel
    have HP := hpos
    have HS := Lib.hid hsrc
    have HM := Lib.hid hmid
    have hz := hmid.size
    clear hpos hsrc hmid
    by_cases h0 : 0 < i
    · have h0' : (0 : Int) < (i : Int) := by omega
      have ei : IntKind.i64.wrap ((i : Int) - 1) = (i : Int) - 1 := IntWalk.i64_in _ ⟨by omega, by omega⟩
      have HSa := Lib.hid (HS.out.alloc (.cells #[.string ⟨#[116, 101, 120, 116]⟩, .string ⟨#[97]⟩, .string ⟨#[13, 10]⟩, .string ⟨#[10]⟩, .string ⟨#[8]⟩, .string ⟨#[9]⟩, .string ⟨#[27, 91, 72]⟩, .string ⟨#[27, 91, 50, 74]⟩, .string ⟨#[27, 91, 75]⟩, .string ⟨#[27, 91, 49, 59, 51, 49, 109]⟩, .string ⟨#[27, 91, 48, 109]⟩, .string ⟨#[27, 91, 51, 59, 50, 72]⟩, .string ⟨#[27, 91, 50, 65]⟩, .string ⟨#[27, 91, 66]⟩, .string ⟨#[27, 91, 53, 67]⟩, .string ⟨#[27, 91, 68]⟩, .string ⟨#[27, 91, 50, 59, 52, 114]⟩, .string ⟨#[27, 91, 114]⟩, .string ⟨#[27, 91, 76]⟩, .string ⟨#[27, 91, 50, 77]⟩, .string ⟨#[27, 55]⟩, .string ⟨#[27, 56]⟩, .string ⟨#[27, 68]⟩, .string ⟨#[27, 77]⟩, .string ⟨#[27, 69]⟩, .string ⟨#[27, 99]⟩, .string ⟨#[27, 93, 48, 59, 116, 105, 116, 108, 101, 7]⟩, .string ⟨#[27, 93, 120, 27, 92]⟩, .string ⟨#[195, 164]⟩, .string ⟨#[226, 130, 172]⟩, .string ⟨#[240, 159, 152, 128]⟩, .string ⟨#[128]⟩, .string ⟨#[226, 40]⟩, .string ⟨#[27, 91, 63, 50, 53, 104]⟩, .string ⟨#[27, 91, 49, 59, 50, 59, 51, 59, 52, 59, 53, 59, 54, 59, 55, 59, 56, 59, 57, 109]⟩, .string ⟨#[27, 91, 57, 57, 57, 57, 57, 65]⟩, .string ⟨#[27, 91, 49, 36, 120]⟩, .string ⟨#[7]⟩, .string ⟨#[27, 91, 83]⟩, .string ⟨#[27, 91, 84]⟩, .string ⟨#[27, 91, 49, 74]⟩, .string ⟨#[27, 91, 49, 75]⟩, .string ⟨#[119, 114, 97, 112, 32, 97, 114, 111, 117, 110, 100, 32, 105, 116]⟩] 9))
      have HL : Hid (Sl strE 1 (wr.alloc (.cells #[.string ⟨#[116, 101, 120, 116]⟩, .string ⟨#[97]⟩, .string ⟨#[13, 10]⟩, .string ⟨#[10]⟩, .string ⟨#[8]⟩, .string ⟨#[9]⟩, .string ⟨#[27, 91, 72]⟩, .string ⟨#[27, 91, 50, 74]⟩, .string ⟨#[27, 91, 75]⟩, .string ⟨#[27, 91, 49, 59, 51, 49, 109]⟩, .string ⟨#[27, 91, 48, 109]⟩, .string ⟨#[27, 91, 51, 59, 50, 72]⟩, .string ⟨#[27, 91, 50, 65]⟩, .string ⟨#[27, 91, 66]⟩, .string ⟨#[27, 91, 53, 67]⟩, .string ⟨#[27, 91, 68]⟩, .string ⟨#[27, 91, 50, 59, 52, 114]⟩, .string ⟨#[27, 91, 114]⟩, .string ⟨#[27, 91, 76]⟩, .string ⟨#[27, 91, 50, 77]⟩, .string ⟨#[27, 55]⟩, .string ⟨#[27, 56]⟩, .string ⟨#[27, 68]⟩, .string ⟨#[27, 77]⟩, .string ⟨#[27, 69]⟩, .string ⟨#[27, 99]⟩, .string ⟨#[27, 93, 48, 59, 116, 105, 116, 108, 101, 7]⟩, .string ⟨#[27, 93, 120, 27, 92]⟩, .string ⟨#[195, 164]⟩, .string ⟨#[226, 130, 172]⟩, .string ⟨#[240, 159, 152, 128]⟩, .string ⟨#[128]⟩, .string ⟨#[226, 40]⟩, .string ⟨#[27, 91, 63, 50, 53, 104]⟩, .string ⟨#[27, 91, 49, 59, 50, 59, 51, 59, 52, 59, 53, 59, 54, 59, 55, 59, 56, 59, 57, 109]⟩, .string ⟨#[27, 91, 57, 57, 57, 57, 57, 65]⟩, .string ⟨#[27, 91, 49, 36, 120]⟩, .string ⟨#[7]⟩, .string ⟨#[27, 91, 83]⟩, .string ⟨#[27, 91, 84]⟩, .string ⟨#[27, 91, 49, 74]⟩, .string ⟨#[27, 91, 49, 75]⟩, .string ⟨#[119, 114, 97, 112, 32, 97, 114, 111, 117, 110, 100, 32, 105, 116]⟩] 9)) (some ⟨wr.heap.size, 0, none⟩) outL) := Lib.hid (Sl.boxM (enc := strE) (sz := 1) (fun _ => rfl) outL #[.string ⟨#[116, 101, 120, 116]⟩, .string ⟨#[97]⟩, .string ⟨#[13, 10]⟩, .string ⟨#[10]⟩, .string ⟨#[8]⟩, .string ⟨#[9]⟩, .string ⟨#[27, 91, 72]⟩, .string ⟨#[27, 91, 50, 74]⟩, .string ⟨#[27, 91, 75]⟩, .string ⟨#[27, 91, 49, 59, 51, 49, 109]⟩, .string ⟨#[27, 91, 48, 109]⟩, .string ⟨#[27, 91, 51, 59, 50, 72]⟩, .string ⟨#[27, 91, 50, 65]⟩, .string ⟨#[27, 91, 66]⟩, .string ⟨#[27, 91, 53, 67]⟩, .string ⟨#[27, 91, 68]⟩, .string ⟨#[27, 91, 50, 59, 52, 114]⟩, .string ⟨#[27, 91, 114]⟩, .string ⟨#[27, 91, 76]⟩, .string ⟨#[27, 91, 50, 77]⟩, .string ⟨#[27, 55]⟩, .string ⟨#[27, 56]⟩, .string ⟨#[27, 68]⟩, .string ⟨#[27, 77]⟩, .string ⟨#[27, 69]⟩, .string ⟨#[27, 99]⟩, .string ⟨#[27, 93, 48, 59, 116, 105, 116, 108, 101, 7]⟩, .string ⟨#[27, 93, 120, 27, 92]⟩, .string ⟨#[195, 164]⟩, .string ⟨#[226, 130, 172]⟩, .string ⟨#[240, 159, 152, 128]⟩, .string ⟨#[128]⟩, .string ⟨#[226, 40]⟩, .string ⟨#[27, 91, 63, 50, 53, 104]⟩, .string ⟨#[27, 91, 49, 59, 50, 59, 51, 59, 52, 59, 53, 59, 54, 59, 55, 59, 56, 59, 57, 109]⟩, .string ⟨#[27, 91, 57, 57, 57, 57, 57, 65]⟩, .string ⟨#[27, 91, 49, 36, 120]⟩, .string ⟨#[7]⟩, .string ⟨#[27, 91, 83]⟩, .string ⟨#[27, 91, 84]⟩, .string ⟨#[27, 91, 49, 74]⟩, .string ⟨#[27, 91, 49, 75]⟩, .string ⟨#[119, 114, 97, 112, 32, 97, 114, 111, 117, 110, 100, 32, 105, 116]⟩] 9 rfl wr.heap.size rfl)
      go_wp2_with fail
      refine (srcPick_c b a c xs (K + 9 - i) (some ⟨wr.heap.size, 0, none⟩) 43 outL _ HSa.out (by omega) HL.out (fun b' o h => by cases h; omega) (by decide) (by decide)).mono ?_
      rintro e w2 ⟨t, ht, rfl, hs2, hm2⟩
      have hts := outL_size t ht
      have HS2 := Lib.hid hs2
      have HM2 : Hid (Mid b (b + 1) w w2) := (HM.out.alloc _).trans hm2
      have hsize : (s ++ t).size = s.size + t.size := ByteArray.size_append
      have HSZ := Lib.hid hsize
      clear hs2 hm2 ht HSa HL hsize
      go_wp2_with fail
      go_roundw
      case rel => exact ⟨s ++ t, i - 1, rfl, (by congr 1; omega), by omega, (by rw [HSZ.out]; omega), Lib.hid (fun _ => by rw [HSZ.out]; omega), HS2.out.mono (by omega), HM2.out⟩
      case measure => simp [intOf]; omega
    · obtain rfl : i = 0 := by omega
      go_wp2_with fail
      go_ret
      exact ⟨s, ⟨by first | exact HP.out rfl | exact HP.out trivial, by omega⟩, rfl, HS.out, HM.out⟩
end
end Go.Proofs.Ytjmpgeffkdjpdaa
