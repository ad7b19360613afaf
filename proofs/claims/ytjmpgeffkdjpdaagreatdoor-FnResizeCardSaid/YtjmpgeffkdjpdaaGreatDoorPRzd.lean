/- Contracts of the functions that the claim reaches. No conditions but sizes. -/
import Derived.Test.YtjmpgeffkdjpdaaGreatDoorPRzc
import Derived.Laws.Bits128
namespace Go.Proofs.YtjmpgeffkdjpdaaGreatDoor
set_option linter.unusedVariables false
set_option linter.unusedSimpArgs false
set_option maxRecDepth 100000
set_option maxHeartbeats 16000000
section
open Go.RowKit
theorem argA_bd {xs : List Int} {i : Nat} {d : Int} (h : ∀ x ∈ xs, -1 ≤ x ∧ x ≤ 9999) (h1 : -1 ≤ d) (h2 : d ≤ 9999) : -1 ≤ argA xs i d ∧ argA xs i d ≤ 9999 := by
  unfold argA
  split
  · rename_i hi
    have := h _ (List.getElem_mem hi)
    split <;> omega
  · omega
theorem csi65_c (lo b : Nat) (s : Scr) (g cc : Nat) (ah : Option Addr) (dh : Nat) (w : World) (kd : Int) (xs : List Int) (aa : Option Addr) (ca : Nat) (tx : ByteArray) (h : ScrAt lo b 0 s g cc ah dh w) (ok : ScrOK s) (hlo : lo ≤ w.heap.size) (ha : Sl intE 1 w aa xs) (hna : ∀ k ∈ blkOf aa, k ≠ b ∧ k ≠ g ∧ k ∉ blkOf ah) (hx8 : xs.length ≤ 8) (hxr : ∀ x ∈ xs, -1 ≤ x ∧ x ≤ 9999) :
    Calls Tryz.prog 82 #[.pointer (some ⟨b, 0, none⟩), .agg #[.int .i64 kd, .int .i64 65, .bool false, .slice aa xs.length ca, .string tx]] w fun e w' => e = .returned (.tuple #[]) ∧ ScrR lo b 0 (csiS s 65 xs) g ah w w' := by
  have HS := Lib.hid h
  have HOK := Lib.hid ok
  have HA := Lib.hid ha
  have HNA := Lib.hid hna
  have HXR := Lib.hid hxr
  have HX8 := Lib.hid hx8
  have hw1 := ok.w1
  have hw2 := ok.w2
  have hh1 := ok.h1
  have hh2 := ok.h2
  have hx := ok.hx
  have hy := ok.hy
  have hcur := ok.cur
  have hcn := ok.cn
  have hlt := h.lt
  obtain ⟨n, hn⟩ : ∃ n, arg1 xs 0 = n := ⟨_, rfl⟩
  obtain ⟨A0, hA0⟩ : ∃ a, argA xs 0 1 = a := ⟨_, rfl⟩
  have hAb : -1 ≤ A0 ∧ A0 ≤ 9999 := by rw [← hA0]; exact argA_bd HXR.out (by omega) (by omega)
  have hm : max 1 A0 = (n : Int) := by rw [← hn, ← hA0]; unfold arg1; omega
  have hn1 : 1 ≤ n := by omega
  have hn2 : n ≤ 9999 := by omega
  have HN := Lib.hid hn
  have HA0 := Lib.hid hA0
  obtain ⟨p, hp⟩ : ∃ p, s.y * s.w = p := ⟨_, rfl⟩
  obtain ⟨mx, hmx⟩ : ∃ m, min s.x (s.w - 1) = m := ⟨_, rfl⟩
  obtain ⟨cr, hcr⟩ : ∃ c, curS s = c := ⟨_, rfl⟩
  obtain ⟨pn, hpn⟩ : ∃ q, (s.y + 1) * s.w = q := ⟨_, rfl⟩
  obtain ⟨nn, hnn⟩ : ∃ q, s.w * s.h = q := ⟨_, rfl⟩
  have hpi : (s.y : Int) * (s.w : Int) = (p : Int) := by rw [← hp]; exact (Int.natCast_mul _ _).symm
  have hpni : ((s.y : Int) + 1) * (s.w : Int) = (pn : Int) := by rw [← hpn]; exact (Int.natCast_mul (s.y + 1) s.w).symm
  have hnni : (s.w : Int) * (s.h : Int) = (nn : Int) := by rw [← hnn]; exact (Int.natCast_mul _ _).symm
  have hmi : min (s.x : Int) ((s.w : Int) - 1) = (mx : Int) := by omega
  have hcri : (p : Int) + (mx : Int) = (cr : Int) := by rw [← hcr, ← hp, ← hmx]; unfold curS; omega
  have hn240 : nn ≤ 240 := by rw [← hnn]; exact Nat.mul_le_mul hw2 hh2
  rw [hcr, hp, hpn, hnn] at hcur
  rw [hnn] at hcn
  obtain ⟨hc1, hc2, hc3⟩ := hcur
  have HCN := Lib.hid hcn
  have HP := Lib.hid hp
  have HMX := Lib.hid hmx
  have HCR := Lib.hid hcr
  have HPN := Lib.hid hpn
  have HNN := Lib.hid hnn
  have hwA : IntKind.i64.wrap ((s.w : Int) - 1) = (s.w : Int) - 1 := IntWalk.i64_in _ ⟨by omega, by omega⟩
  have hwB : IntKind.i64.wrap (p : Int) = (p : Int) := IntWalk.i64_in _ ⟨by omega, by omega⟩
  have hwC : IntKind.i64.wrap (cr : Int) = (cr : Int) := IntWalk.i64_in _ ⟨by omega, by omega⟩
  have hwD : IntKind.i64.wrap (pn : Int) = (pn : Int) := IntWalk.i64_in _ ⟨by omega, by omega⟩
  have hwE : IntKind.i64.wrap (nn : Int) = (nn : Int) := IntWalk.i64_in _ ⟨by omega, by omega⟩
  have hwF : IntKind.i64.wrap ((s.y : Int) + 1) = (s.y : Int) + 1 := IntWalk.i64_in _ ⟨by omega, by omega⟩
  have hwG : IntKind.i64.wrap ((cr : Int) + 1) = (cr : Int) + 1 := IntWalk.i64_in _ ⟨by omega, by omega⟩
  obtain ⟨ln, hln⟩ : ∃ l, xs.length = l := ⟨_, rfl⟩
  have HLN := Lib.hid hln
  have HCALL : ∀ (i : Nat) (d : Int) (W : World), i ≤ 7 → Sl intE 1 W aa xs → Calls Tryz.prog 117 #[.agg #[.int .i64 kd, .int .i64 65, .bool false, .slice aa ln ca, .string tx], .int .i64 i, .int .i64 d] W fun e w' => e = .returned (.int .i64 (argA xs i d)) ∧ Below W.heap.size W w' := fun i d W hi hW => by
    rw [← hln]
    exact l03ArgG_c kd 65 false tx xs aa ca i d W hW hi hx8
  rw [hln]
  clear h ok ha hna hxr hx8 hn hA0 hp hmx hcr hpn hnn hcn hln
  go_enter Tryz.func82, Tryz.ntmps82
  go_wp2_with fail
  refine (HCALL 0 1 _ (by omega) (HA.out.alloc _)).mono ?_
  rintro e v0 ⟨rfl, hb0⟩
  rw [HA0.out]
  have HB0 : Hid (Below w.heap.size w v0) := Lib.hid (((Below.refl w.heap.size w).alloc (Nat.le_refl _) _).trans (hb0.mono (by simp)))
  have hz0 := HB0.out.size
  have q_l : w.heap.size < v0.heap.size := by have := hb0.size; simp at this; omega
  have q_0 : v0.cell? ⟨w.heap.size, 0, none⟩ = some (.int .i64 kd) := kC hb0 (by simp) (by simp [go_sem])
  have q_1 : v0.cell? ⟨w.heap.size, 1, none⟩ = some (.int .i64 65) := kC hb0 (by simp) (by simp [go_sem])
  have q_2 : v0.cell? ⟨w.heap.size, 2, none⟩ = some (.bool false) := kC hb0 (by simp) (by simp [go_sem])
  have q_3 : v0.cell? ⟨w.heap.size, 3, none⟩ = some (.slice aa ln ca) := kC hb0 (by simp) (by simp [go_sem])
  have q_4 : v0.cell? ⟨w.heap.size, 4, none⟩ = some (.string tx) := kC hb0 (by simp) (by simp [go_sem])
  clear hb0
  have q_b : ¬ w.heap.size = b := by omega
  have HA_nb : ∀ k ∈ blkOf aa, ¬ k = b := fun k hk => (HNA.out k hk).1
  have Hv0 := Lib.hid (HS.out.below HB0.out)
  have HA2 := Lib.hid (HA.out.keep HB0.out)
  have HUv0 : Hid (Upd b 0 (0 + 12) (fun k => k = g ∨ k ∈ blkOf ah) w v0) := Lib.hid (Upd.refl'.below HB0.out HS.out.lt)
  have HA2_nb := HA_nb
  have k_0 := Hv0.out.e0
  have k_1 := Hv0.out.e1
  have k_2 := Hv0.out.e2
  have k_3 := Hv0.out.e3
  have k_4 := Hv0.out.e4
  have k_5 := Hv0.out.e5
  have k_6 := Hv0.out.e6
  have k_7 := Hv0.out.e7
  have k_8 := Hv0.out.e8
  have k_9 := Hv0.out.e9
  have k_10 := Hv0.out.e10
  have k_11 := Hv0.out.e11
  have k_f := Hv0.out.fz
  have k_l := Hv0.out.lt
  go_upto_region 4 with fail
  have hSc1 := And.intro k_0 (And.intro k_2 k_3)
  refine wp_region_G (fun w' => w'.cell? ⟨b, 0, none⟩ = some (.int .i64 (s.w : Int)) ∧ w'.cell? ⟨b, 2, none⟩ = some (.int .i64 (s.x : Int)) ∧ w'.cell? ⟨b, 3, none⟩ = some (.int .i64 (s.y : Int))) (fun i => false) (by kernel_rfl) hSc1 ?_
  refine tW ?_ 0 rfl ?_ ?_; rotate_left
  · intro w' hSw; go_simp; try rfl
  try simp only [Act.put,j1,j2,j3,j4,j5,j6]
  refine tW ?_ 1 rfl ?_ ?_; rotate_left
  · intro w' hSw; go_simp; try rfl
  try simp only [Act.put,j1,j2,j3,j4,j5,j6]
  refine tW ?_ 2 rfl ?_ ?_; rotate_left
  · intro w' hSw; go_simp; try rfl
  try simp only [Act.put,j1,j2,j3,j4,j5,j6]
  refine tL ?_ 3 rfl hSc1 ?_ ?_; rotate_left
  · intro w' hSw; obtain ⟨s0, s1, s2⟩ := hSw; go_simp; try rfl
  try simp only [Act.put,j1,j2,j3,j4,j5,j6]
  refine tW ?_ 4 rfl ?_ ?_; rotate_left
  · intro w' hSw; go_simp; try rfl
  try simp only [Act.put,j1,j2,j3,j4,j5,j6]
  refine tW ?_ 5 rfl ?_ ?_; rotate_left
  · intro w' hSw; go_simp; try rfl
  try simp only [Act.put,j1,j2,j3,j4,j5,j6]
  refine tW ?_ 6 rfl ?_ ?_; rotate_left
  · intro w' hSw; go_simp; try rfl
  try simp only [Act.put,j1,j2,j3,j4,j5,j6]
  refine tL ?_ 7 rfl hSc1 ?_ ?_; rotate_left
  · intro w' hSw; obtain ⟨s0, s1, s2⟩ := hSw; go_simp; try rfl
  try simp only [Act.put,j1,j2,j3,j4,j5,j6]
  refine tW ?_ 8 rfl ?_ ?_; rotate_left
  · intro w' hSw; go_simp; try rfl
  try simp only [Act.put,j1,j2,j3,j4,j5,j6]
  refine tW ?_ 9 rfl ?_ ?_; rotate_left
  · intro w' hSw; go_simp; try rfl
  try simp only [Act.put,j1,j2,j3,j4,j5,j6]
  refine tW ?_ 10 rfl ?_ ?_; rotate_left
  · intro w' hSw; go_simp; try rfl
  try simp only [Act.put,j1,j2,j3,j4,j5,j6]
  refine tW ?_ 11 rfl ?_ ?_; rotate_left
  · intro w' hSw; go_simp; try rfl
  try simp only [Act.put,j1,j2,j3,j4,j5,j6]
  refine tL ?_ 12 rfl hSc1 ?_ ?_; rotate_left
  · intro w' hSw; obtain ⟨s0, s1, s2⟩ := hSw; go_simp; try rfl
  try simp only [Act.put,j1,j2,j3,j4,j5,j6]
  refine tW ?_ 13 rfl ?_ ?_; rotate_left
  · intro w' hSw; go_simp; try rfl
  try simp only [Act.put,j1,j2,j3,j4,j5,j6]
  refine tW ?_ 14 rfl ?_ ?_; rotate_left
  · intro w' hSw; go_simp; try rfl
  try simp only [Act.put,j1,j2,j3,j4,j5,j6]
  refine tW ?_ 15 rfl ?_ ?_; rotate_left
  · intro w' hSw; go_simp; try rfl
  try simp only [Act.put,j1,j2,j3,j4,j5,j6]
  refine tL ?_ 16 rfl hSc1 ?_ ?_; rotate_left
  · intro w' hSw; obtain ⟨s0, s1, s2⟩ := hSw; go_simp; try rfl
  try simp only [Act.put,j1,j2,j3,j4,j5,j6]
  refine tW ?_ 17 rfl ?_ ?_; rotate_left
  · intro w' hSw; go_simp; try rfl
  try simp only [Act.put,j1,j2,j3,j4,j5,j6]
  refine tW ?_ 18 rfl ?_ ?_; rotate_left
  · intro w' hSw; go_simp; try rfl
  try simp only [Act.put,j1,j2,j3,j4,j5,j6]
  refine tW ?_ 19 rfl ?_ ?_; rotate_left
  · intro w' hSw; go_simp; try rfl
  try simp only [Act.put,j1,j2,j3,j4,j5,j6]
  refine tW ?_ 20 rfl ?_ ?_; rotate_left
  · intro w' hSw; go_simp; try rfl
  try simp only [Act.put,j1,j2,j3,j4,j5,j6]
  refine wpAnyG_done (by kernel_rfl) ?_ _
  obtain ⟨v1, hv1⟩ : ∃ x, v0.drew = x := ⟨_, rfl⟩
  have HBv1 : Hid (Below v0.heap.size v0 v1) := Lib.hid (by rw [← hv1]; exact (Below.refl _ _).drew)
  rw [hv1]
  have hzv1 := HBv1.out.size
  have Hv1 := Lib.hid (Hv0.out.below HBv1.out)
  have HUv1 : Hid (Upd b 0 (0 + 12) (fun k => k = g ∨ k ∈ blkOf ah) w v1) := Lib.hid (HUv0.out.below HBv1.out Hv0.out.lt)
  have qn_0 := kC HBv1.out q_l q_0
  have qn_1 := kC HBv1.out q_l q_1
  have qn_2 := kC HBv1.out q_l q_2
  have qn_3 := kC HBv1.out q_l q_3
  have qn_4 := kC HBv1.out q_l q_4
  have qn_l := Nat.lt_of_lt_of_le q_l HBv1.out.size
  clear q_0 q_1 q_2 q_3 q_4 q_l
  have HA2n := Lib.hid (HA2.out.keep HBv1.out)
  clear k_f k_l k_0 k_1 k_2 k_3 k_4 k_5 k_6 k_7 k_8 k_9 k_10 k_11 hv1 hSc1
  have k_0 := Hv1.out.e0
  have k_1 := Hv1.out.e1
  have k_2 := Hv1.out.e2
  have k_3 := Hv1.out.e3
  have k_4 := Hv1.out.e4
  have k_5 := Hv1.out.e5
  have k_6 := Hv1.out.e6
  have k_7 := Hv1.out.e7
  have k_8 := Hv1.out.e8
  have k_9 := Hv1.out.e9
  have k_10 := Hv1.out.e10
  have k_11 := Hv1.out.e11
  have k_f := Hv1.out.fz
  have k_l := Hv1.out.lt
  go_wp2_with fail
  first | refine bodyPost_end (v := .tuple #[]) (by simp [results, Tryz.results82]) rfl ?_ | refine bodyPost_ret (v := .tuple #[]) (by simp [results, Tryz.results82]) rfl ?_
  refine ⟨rfl, ?_⟩
  unfold csiS
  rw [if_pos (by decide)]
  rw [HN.out]
  refine ScrR.mk (cc := cc) (dh := dh) ?_ ?_
  · repeat (with_reducible refine ScrAt.drew ?_)
    exact Hv1.out.setv3 _ (by omega)
  · repeat (with_reducible refine Upd.drew ?_)
    exact HUv1.out.set3 _
theorem csi66_c (lo b : Nat) (s : Scr) (g cc : Nat) (ah : Option Addr) (dh : Nat) (w : World) (kd : Int) (xs : List Int) (aa : Option Addr) (ca : Nat) (tx : ByteArray) (h : ScrAt lo b 0 s g cc ah dh w) (ok : ScrOK s) (hlo : lo ≤ w.heap.size) (ha : Sl intE 1 w aa xs) (hna : ∀ k ∈ blkOf aa, k ≠ b ∧ k ≠ g ∧ k ∉ blkOf ah) (hx8 : xs.length ≤ 8) (hxr : ∀ x ∈ xs, -1 ≤ x ∧ x ≤ 9999) :
    Calls Tryz.prog 82 #[.pointer (some ⟨b, 0, none⟩), .agg #[.int .i64 kd, .int .i64 66, .bool false, .slice aa xs.length ca, .string tx]] w fun e w' => e = .returned (.tuple #[]) ∧ ScrR lo b 0 (csiS s 66 xs) g ah w w' := by
  have HS := Lib.hid h
  have HOK := Lib.hid ok
  have HA := Lib.hid ha
  have HNA := Lib.hid hna
  have HXR := Lib.hid hxr
  have HX8 := Lib.hid hx8
  have hw1 := ok.w1
  have hw2 := ok.w2
  have hh1 := ok.h1
  have hh2 := ok.h2
  have hx := ok.hx
  have hy := ok.hy
  have hcur := ok.cur
  have hcn := ok.cn
  have hlt := h.lt
  obtain ⟨n, hn⟩ : ∃ n, arg1 xs 0 = n := ⟨_, rfl⟩
  obtain ⟨A0, hA0⟩ : ∃ a, argA xs 0 1 = a := ⟨_, rfl⟩
  have hAb : -1 ≤ A0 ∧ A0 ≤ 9999 := by rw [← hA0]; exact argA_bd HXR.out (by omega) (by omega)
  have hm : max 1 A0 = (n : Int) := by rw [← hn, ← hA0]; unfold arg1; omega
  have hn1 : 1 ≤ n := by omega
  have hn2 : n ≤ 9999 := by omega
  have HN := Lib.hid hn
  have HA0 := Lib.hid hA0
  obtain ⟨p, hp⟩ : ∃ p, s.y * s.w = p := ⟨_, rfl⟩
  obtain ⟨mx, hmx⟩ : ∃ m, min s.x (s.w - 1) = m := ⟨_, rfl⟩
  obtain ⟨cr, hcr⟩ : ∃ c, curS s = c := ⟨_, rfl⟩
  obtain ⟨pn, hpn⟩ : ∃ q, (s.y + 1) * s.w = q := ⟨_, rfl⟩
  obtain ⟨nn, hnn⟩ : ∃ q, s.w * s.h = q := ⟨_, rfl⟩
  have hpi : (s.y : Int) * (s.w : Int) = (p : Int) := by rw [← hp]; exact (Int.natCast_mul _ _).symm
  have hpni : ((s.y : Int) + 1) * (s.w : Int) = (pn : Int) := by rw [← hpn]; exact (Int.natCast_mul (s.y + 1) s.w).symm
  have hnni : (s.w : Int) * (s.h : Int) = (nn : Int) := by rw [← hnn]; exact (Int.natCast_mul _ _).symm
  have hmi : min (s.x : Int) ((s.w : Int) - 1) = (mx : Int) := by omega
  have hcri : (p : Int) + (mx : Int) = (cr : Int) := by rw [← hcr, ← hp, ← hmx]; unfold curS; omega
  have hn240 : nn ≤ 240 := by rw [← hnn]; exact Nat.mul_le_mul hw2 hh2
  rw [hcr, hp, hpn, hnn] at hcur
  rw [hnn] at hcn
  obtain ⟨hc1, hc2, hc3⟩ := hcur
  have HCN := Lib.hid hcn
  have HP := Lib.hid hp
  have HMX := Lib.hid hmx
  have HCR := Lib.hid hcr
  have HPN := Lib.hid hpn
  have HNN := Lib.hid hnn
  have hwA : IntKind.i64.wrap ((s.w : Int) - 1) = (s.w : Int) - 1 := IntWalk.i64_in _ ⟨by omega, by omega⟩
  have hwB : IntKind.i64.wrap (p : Int) = (p : Int) := IntWalk.i64_in _ ⟨by omega, by omega⟩
  have hwC : IntKind.i64.wrap (cr : Int) = (cr : Int) := IntWalk.i64_in _ ⟨by omega, by omega⟩
  have hwD : IntKind.i64.wrap (pn : Int) = (pn : Int) := IntWalk.i64_in _ ⟨by omega, by omega⟩
  have hwE : IntKind.i64.wrap (nn : Int) = (nn : Int) := IntWalk.i64_in _ ⟨by omega, by omega⟩
  have hwF : IntKind.i64.wrap ((s.y : Int) + 1) = (s.y : Int) + 1 := IntWalk.i64_in _ ⟨by omega, by omega⟩
  have hwG : IntKind.i64.wrap ((cr : Int) + 1) = (cr : Int) + 1 := IntWalk.i64_in _ ⟨by omega, by omega⟩
  obtain ⟨ln, hln⟩ : ∃ l, xs.length = l := ⟨_, rfl⟩
  have HLN := Lib.hid hln
  have HCALL : ∀ (i : Nat) (d : Int) (W : World), i ≤ 7 → Sl intE 1 W aa xs → Calls Tryz.prog 117 #[.agg #[.int .i64 kd, .int .i64 66, .bool false, .slice aa ln ca, .string tx], .int .i64 i, .int .i64 d] W fun e w' => e = .returned (.int .i64 (argA xs i d)) ∧ Below W.heap.size W w' := fun i d W hi hW => by
    rw [← hln]
    exact l03ArgG_c kd 66 false tx xs aa ca i d W hW hi hx8
  rw [hln]
  clear h ok ha hna hxr hx8 hn hA0 hp hmx hcr hpn hnn hcn hln
  go_enter Tryz.func82, Tryz.ntmps82
  go_wp2_with fail
  refine (HCALL 0 1 _ (by omega) (HA.out.alloc _)).mono ?_
  rintro e v0 ⟨rfl, hb0⟩
  rw [HA0.out]
  have HB0 : Hid (Below w.heap.size w v0) := Lib.hid (((Below.refl w.heap.size w).alloc (Nat.le_refl _) _).trans (hb0.mono (by simp)))
  have hz0 := HB0.out.size
  have q_l : w.heap.size < v0.heap.size := by have := hb0.size; simp at this; omega
  have q_0 : v0.cell? ⟨w.heap.size, 0, none⟩ = some (.int .i64 kd) := kC hb0 (by simp) (by simp [go_sem])
  have q_1 : v0.cell? ⟨w.heap.size, 1, none⟩ = some (.int .i64 66) := kC hb0 (by simp) (by simp [go_sem])
  have q_2 : v0.cell? ⟨w.heap.size, 2, none⟩ = some (.bool false) := kC hb0 (by simp) (by simp [go_sem])
  have q_3 : v0.cell? ⟨w.heap.size, 3, none⟩ = some (.slice aa ln ca) := kC hb0 (by simp) (by simp [go_sem])
  have q_4 : v0.cell? ⟨w.heap.size, 4, none⟩ = some (.string tx) := kC hb0 (by simp) (by simp [go_sem])
  clear hb0
  have q_b : ¬ w.heap.size = b := by omega
  have HA_nb : ∀ k ∈ blkOf aa, ¬ k = b := fun k hk => (HNA.out k hk).1
  have Hv0 := Lib.hid (HS.out.below HB0.out)
  have HA2 := Lib.hid (HA.out.keep HB0.out)
  have HUv0 : Hid (Upd b 0 (0 + 12) (fun k => k = g ∨ k ∈ blkOf ah) w v0) := Lib.hid (Upd.refl'.below HB0.out HS.out.lt)
  have HA2_nb := HA_nb
  have k_0 := Hv0.out.e0
  have k_1 := Hv0.out.e1
  have k_2 := Hv0.out.e2
  have k_3 := Hv0.out.e3
  have k_4 := Hv0.out.e4
  have k_5 := Hv0.out.e5
  have k_6 := Hv0.out.e6
  have k_7 := Hv0.out.e7
  have k_8 := Hv0.out.e8
  have k_9 := Hv0.out.e9
  have k_10 := Hv0.out.e10
  have k_11 := Hv0.out.e11
  have k_f := Hv0.out.fz
  have k_l := Hv0.out.lt
  go_upto_region 4 with fail
  have hSc1 := And.intro k_0 (And.intro k_2 k_3)
  refine wp_region_G (fun w' => w'.cell? ⟨b, 0, none⟩ = some (.int .i64 (s.w : Int)) ∧ w'.cell? ⟨b, 2, none⟩ = some (.int .i64 (s.x : Int)) ∧ w'.cell? ⟨b, 3, none⟩ = some (.int .i64 (s.y : Int))) (fun i => false) (by kernel_rfl) hSc1 ?_
  refine tW ?_ 0 rfl ?_ ?_; rotate_left
  · intro w' hSw; go_simp; try rfl
  try simp only [Act.put,j1,j2,j3,j4,j5,j6]
  refine tW ?_ 1 rfl ?_ ?_; rotate_left
  · intro w' hSw; go_simp; try rfl
  try simp only [Act.put,j1,j2,j3,j4,j5,j6]
  refine tW ?_ 2 rfl ?_ ?_; rotate_left
  · intro w' hSw; go_simp; try rfl
  try simp only [Act.put,j1,j2,j3,j4,j5,j6]
  refine tL ?_ 3 rfl hSc1 ?_ ?_; rotate_left
  · intro w' hSw; obtain ⟨s0, s1, s2⟩ := hSw; go_simp; try rfl
  try simp only [Act.put,j1,j2,j3,j4,j5,j6]
  refine tW ?_ 4 rfl ?_ ?_; rotate_left
  · intro w' hSw; go_simp; try rfl
  try simp only [Act.put,j1,j2,j3,j4,j5,j6]
  refine tW ?_ 5 rfl ?_ ?_; rotate_left
  · intro w' hSw; go_simp; try rfl
  try simp only [Act.put,j1,j2,j3,j4,j5,j6]
  refine tW ?_ 6 rfl ?_ ?_; rotate_left
  · intro w' hSw; go_simp; try rfl
  try simp only [Act.put,j1,j2,j3,j4,j5,j6]
  refine tL ?_ 7 rfl hSc1 ?_ ?_; rotate_left
  · intro w' hSw; obtain ⟨s0, s1, s2⟩ := hSw; go_simp; try rfl
  try simp only [Act.put,j1,j2,j3,j4,j5,j6]
  refine tW ?_ 8 rfl ?_ ?_; rotate_left
  · intro w' hSw; go_simp; try rfl
  try simp only [Act.put,j1,j2,j3,j4,j5,j6]
  refine tW ?_ 9 rfl ?_ ?_; rotate_left
  · intro w' hSw; go_simp; try rfl
  try simp only [Act.put,j1,j2,j3,j4,j5,j6]
  refine tW ?_ 10 rfl ?_ ?_; rotate_left
  · intro w' hSw; go_simp; try rfl
  try simp only [Act.put,j1,j2,j3,j4,j5,j6]
  refine tW ?_ 11 rfl ?_ ?_; rotate_left
  · intro w' hSw; go_simp; try rfl
  try simp only [Act.put,j1,j2,j3,j4,j5,j6]
  refine tL ?_ 12 rfl hSc1 ?_ ?_; rotate_left
  · intro w' hSw; obtain ⟨s0, s1, s2⟩ := hSw; go_simp; try rfl
  try simp only [Act.put,j1,j2,j3,j4,j5,j6]
  refine tW ?_ 13 rfl ?_ ?_; rotate_left
  · intro w' hSw; go_simp; try rfl
  try simp only [Act.put,j1,j2,j3,j4,j5,j6]
  refine tW ?_ 14 rfl ?_ ?_; rotate_left
  · intro w' hSw; go_simp; try rfl
  try simp only [Act.put,j1,j2,j3,j4,j5,j6]
  refine tW ?_ 15 rfl ?_ ?_; rotate_left
  · intro w' hSw; go_simp; try rfl
  try simp only [Act.put,j1,j2,j3,j4,j5,j6]
  refine tL ?_ 16 rfl hSc1 ?_ ?_; rotate_left
  · intro w' hSw; obtain ⟨s0, s1, s2⟩ := hSw; go_simp; try rfl
  try simp only [Act.put,j1,j2,j3,j4,j5,j6]
  refine tW ?_ 17 rfl ?_ ?_; rotate_left
  · intro w' hSw; go_simp; try rfl
  try simp only [Act.put,j1,j2,j3,j4,j5,j6]
  refine tW ?_ 18 rfl ?_ ?_; rotate_left
  · intro w' hSw; go_simp; try rfl
  try simp only [Act.put,j1,j2,j3,j4,j5,j6]
  refine tW ?_ 19 rfl ?_ ?_; rotate_left
  · intro w' hSw; go_simp; try rfl
  try simp only [Act.put,j1,j2,j3,j4,j5,j6]
  refine tW ?_ 20 rfl ?_ ?_; rotate_left
  · intro w' hSw; go_simp; try rfl
  try simp only [Act.put,j1,j2,j3,j4,j5,j6]
  refine wpAnyG_done (by kernel_rfl) ?_ _
  obtain ⟨v1, hv1⟩ : ∃ x, v0.drew = x := ⟨_, rfl⟩
  have HBv1 : Hid (Below v0.heap.size v0 v1) := Lib.hid (by rw [← hv1]; exact (Below.refl _ _).drew)
  rw [hv1]
  have hzv1 := HBv1.out.size
  have Hv1 := Lib.hid (Hv0.out.below HBv1.out)
  have HUv1 : Hid (Upd b 0 (0 + 12) (fun k => k = g ∨ k ∈ blkOf ah) w v1) := Lib.hid (HUv0.out.below HBv1.out Hv0.out.lt)
  have qn_0 := kC HBv1.out q_l q_0
  have qn_1 := kC HBv1.out q_l q_1
  have qn_2 := kC HBv1.out q_l q_2
  have qn_3 := kC HBv1.out q_l q_3
  have qn_4 := kC HBv1.out q_l q_4
  have qn_l := Nat.lt_of_lt_of_le q_l HBv1.out.size
  clear q_0 q_1 q_2 q_3 q_4 q_l
  have HA2n := Lib.hid (HA2.out.keep HBv1.out)
  clear k_f k_l k_0 k_1 k_2 k_3 k_4 k_5 k_6 k_7 k_8 k_9 k_10 k_11 hv1 hSc1
  have k_0 := Hv1.out.e0
  have k_1 := Hv1.out.e1
  have k_2 := Hv1.out.e2
  have k_3 := Hv1.out.e3
  have k_4 := Hv1.out.e4
  have k_5 := Hv1.out.e5
  have k_6 := Hv1.out.e6
  have k_7 := Hv1.out.e7
  have k_8 := Hv1.out.e8
  have k_9 := Hv1.out.e9
  have k_10 := Hv1.out.e10
  have k_11 := Hv1.out.e11
  have k_f := Hv1.out.fz
  have k_l := Hv1.out.lt
  have hwI : IntKind.i64.wrap ((s.h : Int) - 1) = (s.h : Int) - 1 := IntWalk.i64_in _ ⟨by omega, by omega⟩
  have hwJ : IntKind.i64.wrap ((s.y : Int) + (n : Int)) = (s.y : Int) + (n : Int) := IntWalk.i64_in _ ⟨by omega, by omega⟩
  go_upto_region 9 with fail
  have hSc2 := And.intro k_1 k_3
  refine wp_region_G (fun w' => w'.cell? ⟨b, 1, none⟩ = some (.int .i64 (s.h : Int)) ∧ w'.cell? ⟨b, 3, none⟩ = some (.int .i64 (s.y : Int))) (fun i => i == 15) (by kernel_rfl) hSc2 ?_
  refine tW ?_ 0 rfl ?_ ?_; rotate_left
  · intro w' hSw; go_simp; try rfl
  try simp only [Act.put,j1,j2,j3,j4,j5,j6]
  refine tW ?_ 1 rfl ?_ ?_; rotate_left
  · intro w' hSw; go_simp; try rfl
  try simp only [Act.put,j1,j2,j3,j4,j5,j6]
  refine tW ?_ 2 rfl ?_ ?_; rotate_left
  · intro w' hSw; go_simp; try rfl
  try simp only [Act.put,j1,j2,j3,j4,j5,j6]
  refine tW ?_ 3 rfl ?_ ?_; rotate_left
  · intro w' hSw; go_simp; try rfl
  try simp only [Act.put,j1,j2,j3,j4,j5,j6]
  refine tL ?_ 4 rfl hSc2 ?_ ?_; rotate_left
  · intro w' hSw; obtain ⟨s0, s1⟩ := hSw; go_simp; try rfl
  try simp only [Act.put,j1,j2,j3,j4,j5,j6]
  refine tW ?_ 5 rfl ?_ ?_; rotate_left
  · intro w' hSw; go_simp; try rfl
  try simp only [Act.put,j1,j2,j3,j4,j5,j6]
  refine tW ?_ 6 rfl ?_ ?_; rotate_left
  · intro w' hSw; go_simp; try rfl
  try simp only [Act.put,j1,j2,j3,j4,j5,j6]
  refine tW ?_ 7 rfl ?_ ?_; rotate_left
  · intro w' hSw; go_simp; try rfl
  try simp only [Act.put,j1,j2,j3,j4,j5,j6]
  refine tW ?_ 8 rfl ?_ ?_; rotate_left
  · intro w' hSw; go_simp; try rfl
  try simp only [Act.put,j1,j2,j3,j4,j5,j6]
  refine tL ?_ 9 rfl hSc2 ?_ ?_; rotate_left
  · intro w' hSw; obtain ⟨s0, s1⟩ := hSw; go_simp; try rfl
  try simp only [Act.put,j1,j2,j3,j4,j5,j6]
  refine tW ?_ 10 rfl ?_ ?_; rotate_left
  · intro w' hSw; go_simp; try rfl
  try simp only [Act.put,j1,j2,j3,j4,j5,j6]
  refine tW ?_ 11 rfl ?_ ?_; rotate_left
  · intro w' hSw; go_simp; try rfl
  try simp only [Act.put,j1,j2,j3,j4,j5,j6]
  refine tW ?_ 12 rfl ?_ ?_; rotate_left
  · intro w' hSw; go_simp; try rfl
  try simp only [Act.put,j1,j2,j3,j4,j5,j6]
  refine tW ?_ 13 rfl ?_ ?_; rotate_left
  · intro w' hSw; go_simp; try rfl
  try simp only [Act.put,j1,j2,j3,j4,j5,j6]
  refine tW ?_ 14 rfl ?_ ?_; rotate_left
  · intro w' hSw; go_simp; try rfl
  try simp only [Act.put,j1,j2,j3,j4,j5,j6]
  refine wpAnyG_one (i := 15) (by kernel_rfl) rfl hSc2 (fun K' hK => ?_)
  simp only [j1,j2,j3]
  go_simp
  refine hK.out _ _ (Or.inl rfl) ?_
  clear hK K'
  try simp only [Act.put,j1,j2,j3,j4,j5,j6]
  refine wpAnyG_done (by kernel_rfl) ?_ _
  go_wp2_with fail
  first | refine bodyPost_end (v := .tuple #[]) (by simp [results, Tryz.results82]) rfl ?_ | refine bodyPost_ret (v := .tuple #[]) (by simp [results, Tryz.results82]) rfl ?_
  refine ⟨rfl, ?_⟩
  unfold csiS
  rw [if_neg (by decide), if_pos (by decide)]
  rw [HN.out]
  refine ScrR.mk (cc := cc) (dh := dh) ?_ ?_
  · repeat (with_reducible refine ScrAt.drew ?_)
    exact Hv1.out.setv3 _ (by omega)
  · repeat (with_reducible refine Upd.drew ?_)
    exact HUv1.out.set3 _
theorem csi67_c (lo b : Nat) (s : Scr) (g cc : Nat) (ah : Option Addr) (dh : Nat) (w : World) (kd : Int) (xs : List Int) (aa : Option Addr) (ca : Nat) (tx : ByteArray) (h : ScrAt lo b 0 s g cc ah dh w) (ok : ScrOK s) (hlo : lo ≤ w.heap.size) (ha : Sl intE 1 w aa xs) (hna : ∀ k ∈ blkOf aa, k ≠ b ∧ k ≠ g ∧ k ∉ blkOf ah) (hx8 : xs.length ≤ 8) (hxr : ∀ x ∈ xs, -1 ≤ x ∧ x ≤ 9999) :
    Calls Tryz.prog 82 #[.pointer (some ⟨b, 0, none⟩), .agg #[.int .i64 kd, .int .i64 67, .bool false, .slice aa xs.length ca, .string tx]] w fun e w' => e = .returned (.tuple #[]) ∧ ScrR lo b 0 (csiS s 67 xs) g ah w w' := by
  have HS := Lib.hid h
  have HOK := Lib.hid ok
  have HA := Lib.hid ha
  have HNA := Lib.hid hna
  have HXR := Lib.hid hxr
  have HX8 := Lib.hid hx8
  have hw1 := ok.w1
  have hw2 := ok.w2
  have hh1 := ok.h1
  have hh2 := ok.h2
  have hx := ok.hx
  have hy := ok.hy
  have hcur := ok.cur
  have hcn := ok.cn
  have hlt := h.lt
  obtain ⟨n, hn⟩ : ∃ n, arg1 xs 0 = n := ⟨_, rfl⟩
  obtain ⟨A0, hA0⟩ : ∃ a, argA xs 0 1 = a := ⟨_, rfl⟩
  have hAb : -1 ≤ A0 ∧ A0 ≤ 9999 := by rw [← hA0]; exact argA_bd HXR.out (by omega) (by omega)
  have hm : max 1 A0 = (n : Int) := by rw [← hn, ← hA0]; unfold arg1; omega
  have hn1 : 1 ≤ n := by omega
  have hn2 : n ≤ 9999 := by omega
  have HN := Lib.hid hn
  have HA0 := Lib.hid hA0
  obtain ⟨p, hp⟩ : ∃ p, s.y * s.w = p := ⟨_, rfl⟩
  obtain ⟨mx, hmx⟩ : ∃ m, min s.x (s.w - 1) = m := ⟨_, rfl⟩
  obtain ⟨cr, hcr⟩ : ∃ c, curS s = c := ⟨_, rfl⟩
  obtain ⟨pn, hpn⟩ : ∃ q, (s.y + 1) * s.w = q := ⟨_, rfl⟩
  obtain ⟨nn, hnn⟩ : ∃ q, s.w * s.h = q := ⟨_, rfl⟩
  have hpi : (s.y : Int) * (s.w : Int) = (p : Int) := by rw [← hp]; exact (Int.natCast_mul _ _).symm
  have hpni : ((s.y : Int) + 1) * (s.w : Int) = (pn : Int) := by rw [← hpn]; exact (Int.natCast_mul (s.y + 1) s.w).symm
  have hnni : (s.w : Int) * (s.h : Int) = (nn : Int) := by rw [← hnn]; exact (Int.natCast_mul _ _).symm
  have hmi : min (s.x : Int) ((s.w : Int) - 1) = (mx : Int) := by omega
  have hcri : (p : Int) + (mx : Int) = (cr : Int) := by rw [← hcr, ← hp, ← hmx]; unfold curS; omega
  have hn240 : nn ≤ 240 := by rw [← hnn]; exact Nat.mul_le_mul hw2 hh2
  rw [hcr, hp, hpn, hnn] at hcur
  rw [hnn] at hcn
  obtain ⟨hc1, hc2, hc3⟩ := hcur
  have HCN := Lib.hid hcn
  have HP := Lib.hid hp
  have HMX := Lib.hid hmx
  have HCR := Lib.hid hcr
  have HPN := Lib.hid hpn
  have HNN := Lib.hid hnn
  have hwA : IntKind.i64.wrap ((s.w : Int) - 1) = (s.w : Int) - 1 := IntWalk.i64_in _ ⟨by omega, by omega⟩
  have hwB : IntKind.i64.wrap (p : Int) = (p : Int) := IntWalk.i64_in _ ⟨by omega, by omega⟩
  have hwC : IntKind.i64.wrap (cr : Int) = (cr : Int) := IntWalk.i64_in _ ⟨by omega, by omega⟩
  have hwD : IntKind.i64.wrap (pn : Int) = (pn : Int) := IntWalk.i64_in _ ⟨by omega, by omega⟩
  have hwE : IntKind.i64.wrap (nn : Int) = (nn : Int) := IntWalk.i64_in _ ⟨by omega, by omega⟩
  have hwF : IntKind.i64.wrap ((s.y : Int) + 1) = (s.y : Int) + 1 := IntWalk.i64_in _ ⟨by omega, by omega⟩
  have hwG : IntKind.i64.wrap ((cr : Int) + 1) = (cr : Int) + 1 := IntWalk.i64_in _ ⟨by omega, by omega⟩
  obtain ⟨ln, hln⟩ : ∃ l, xs.length = l := ⟨_, rfl⟩
  have HLN := Lib.hid hln
  have HCALL : ∀ (i : Nat) (d : Int) (W : World), i ≤ 7 → Sl intE 1 W aa xs → Calls Tryz.prog 117 #[.agg #[.int .i64 kd, .int .i64 67, .bool false, .slice aa ln ca, .string tx], .int .i64 i, .int .i64 d] W fun e w' => e = .returned (.int .i64 (argA xs i d)) ∧ Below W.heap.size W w' := fun i d W hi hW => by
    rw [← hln]
    exact l03ArgG_c kd 67 false tx xs aa ca i d W hW hi hx8
  rw [hln]
  clear h ok ha hna hxr hx8 hn hA0 hp hmx hcr hpn hnn hcn hln
  go_enter Tryz.func82, Tryz.ntmps82
  go_wp2_with fail
  refine (HCALL 0 1 _ (by omega) (HA.out.alloc _)).mono ?_
  rintro e v0 ⟨rfl, hb0⟩
  rw [HA0.out]
  have HB0 : Hid (Below w.heap.size w v0) := Lib.hid (((Below.refl w.heap.size w).alloc (Nat.le_refl _) _).trans (hb0.mono (by simp)))
  have hz0 := HB0.out.size
  have q_l : w.heap.size < v0.heap.size := by have := hb0.size; simp at this; omega
  have q_0 : v0.cell? ⟨w.heap.size, 0, none⟩ = some (.int .i64 kd) := kC hb0 (by simp) (by simp [go_sem])
  have q_1 : v0.cell? ⟨w.heap.size, 1, none⟩ = some (.int .i64 67) := kC hb0 (by simp) (by simp [go_sem])
  have q_2 : v0.cell? ⟨w.heap.size, 2, none⟩ = some (.bool false) := kC hb0 (by simp) (by simp [go_sem])
  have q_3 : v0.cell? ⟨w.heap.size, 3, none⟩ = some (.slice aa ln ca) := kC hb0 (by simp) (by simp [go_sem])
  have q_4 : v0.cell? ⟨w.heap.size, 4, none⟩ = some (.string tx) := kC hb0 (by simp) (by simp [go_sem])
  clear hb0
  have q_b : ¬ w.heap.size = b := by omega
  have HA_nb : ∀ k ∈ blkOf aa, ¬ k = b := fun k hk => (HNA.out k hk).1
  have Hv0 := Lib.hid (HS.out.below HB0.out)
  have HA2 := Lib.hid (HA.out.keep HB0.out)
  have HUv0 : Hid (Upd b 0 (0 + 12) (fun k => k = g ∨ k ∈ blkOf ah) w v0) := Lib.hid (Upd.refl'.below HB0.out HS.out.lt)
  have HA2_nb := HA_nb
  have k_0 := Hv0.out.e0
  have k_1 := Hv0.out.e1
  have k_2 := Hv0.out.e2
  have k_3 := Hv0.out.e3
  have k_4 := Hv0.out.e4
  have k_5 := Hv0.out.e5
  have k_6 := Hv0.out.e6
  have k_7 := Hv0.out.e7
  have k_8 := Hv0.out.e8
  have k_9 := Hv0.out.e9
  have k_10 := Hv0.out.e10
  have k_11 := Hv0.out.e11
  have k_f := Hv0.out.fz
  have k_l := Hv0.out.lt
  go_upto_region 4 with fail
  have hSc1 := And.intro k_0 (And.intro k_2 k_3)
  refine wp_region_G (fun w' => w'.cell? ⟨b, 0, none⟩ = some (.int .i64 (s.w : Int)) ∧ w'.cell? ⟨b, 2, none⟩ = some (.int .i64 (s.x : Int)) ∧ w'.cell? ⟨b, 3, none⟩ = some (.int .i64 (s.y : Int))) (fun i => false) (by kernel_rfl) hSc1 ?_
  refine tW ?_ 0 rfl ?_ ?_; rotate_left
  · intro w' hSw; go_simp; try rfl
  try simp only [Act.put,j1,j2,j3,j4,j5,j6]
  refine tW ?_ 1 rfl ?_ ?_; rotate_left
  · intro w' hSw; go_simp; try rfl
  try simp only [Act.put,j1,j2,j3,j4,j5,j6]
  refine tW ?_ 2 rfl ?_ ?_; rotate_left
  · intro w' hSw; go_simp; try rfl
  try simp only [Act.put,j1,j2,j3,j4,j5,j6]
  refine tL ?_ 3 rfl hSc1 ?_ ?_; rotate_left
  · intro w' hSw; obtain ⟨s0, s1, s2⟩ := hSw; go_simp; try rfl
  try simp only [Act.put,j1,j2,j3,j4,j5,j6]
  refine tW ?_ 4 rfl ?_ ?_; rotate_left
  · intro w' hSw; go_simp; try rfl
  try simp only [Act.put,j1,j2,j3,j4,j5,j6]
  refine tW ?_ 5 rfl ?_ ?_; rotate_left
  · intro w' hSw; go_simp; try rfl
  try simp only [Act.put,j1,j2,j3,j4,j5,j6]
  refine tW ?_ 6 rfl ?_ ?_; rotate_left
  · intro w' hSw; go_simp; try rfl
  try simp only [Act.put,j1,j2,j3,j4,j5,j6]
  refine tL ?_ 7 rfl hSc1 ?_ ?_; rotate_left
  · intro w' hSw; obtain ⟨s0, s1, s2⟩ := hSw; go_simp; try rfl
  try simp only [Act.put,j1,j2,j3,j4,j5,j6]
  refine tW ?_ 8 rfl ?_ ?_; rotate_left
  · intro w' hSw; go_simp; try rfl
  try simp only [Act.put,j1,j2,j3,j4,j5,j6]
  refine tW ?_ 9 rfl ?_ ?_; rotate_left
  · intro w' hSw; go_simp; try rfl
  try simp only [Act.put,j1,j2,j3,j4,j5,j6]
  refine tW ?_ 10 rfl ?_ ?_; rotate_left
  · intro w' hSw; go_simp; try rfl
  try simp only [Act.put,j1,j2,j3,j4,j5,j6]
  refine tW ?_ 11 rfl ?_ ?_; rotate_left
  · intro w' hSw; go_simp; try rfl
  try simp only [Act.put,j1,j2,j3,j4,j5,j6]
  refine tL ?_ 12 rfl hSc1 ?_ ?_; rotate_left
  · intro w' hSw; obtain ⟨s0, s1, s2⟩ := hSw; go_simp; try rfl
  try simp only [Act.put,j1,j2,j3,j4,j5,j6]
  refine tW ?_ 13 rfl ?_ ?_; rotate_left
  · intro w' hSw; go_simp; try rfl
  try simp only [Act.put,j1,j2,j3,j4,j5,j6]
  refine tW ?_ 14 rfl ?_ ?_; rotate_left
  · intro w' hSw; go_simp; try rfl
  try simp only [Act.put,j1,j2,j3,j4,j5,j6]
  refine tW ?_ 15 rfl ?_ ?_; rotate_left
  · intro w' hSw; go_simp; try rfl
  try simp only [Act.put,j1,j2,j3,j4,j5,j6]
  refine tL ?_ 16 rfl hSc1 ?_ ?_; rotate_left
  · intro w' hSw; obtain ⟨s0, s1, s2⟩ := hSw; go_simp; try rfl
  try simp only [Act.put,j1,j2,j3,j4,j5,j6]
  refine tW ?_ 17 rfl ?_ ?_; rotate_left
  · intro w' hSw; go_simp; try rfl
  try simp only [Act.put,j1,j2,j3,j4,j5,j6]
  refine tW ?_ 18 rfl ?_ ?_; rotate_left
  · intro w' hSw; go_simp; try rfl
  try simp only [Act.put,j1,j2,j3,j4,j5,j6]
  refine tW ?_ 19 rfl ?_ ?_; rotate_left
  · intro w' hSw; go_simp; try rfl
  try simp only [Act.put,j1,j2,j3,j4,j5,j6]
  refine tW ?_ 20 rfl ?_ ?_; rotate_left
  · intro w' hSw; go_simp; try rfl
  try simp only [Act.put,j1,j2,j3,j4,j5,j6]
  refine wpAnyG_done (by kernel_rfl) ?_ _
  obtain ⟨v1, hv1⟩ : ∃ x, v0.drew = x := ⟨_, rfl⟩
  have HBv1 : Hid (Below v0.heap.size v0 v1) := Lib.hid (by rw [← hv1]; exact (Below.refl _ _).drew)
  rw [hv1]
  have hzv1 := HBv1.out.size
  have Hv1 := Lib.hid (Hv0.out.below HBv1.out)
  have HUv1 : Hid (Upd b 0 (0 + 12) (fun k => k = g ∨ k ∈ blkOf ah) w v1) := Lib.hid (HUv0.out.below HBv1.out Hv0.out.lt)
  have qn_0 := kC HBv1.out q_l q_0
  have qn_1 := kC HBv1.out q_l q_1
  have qn_2 := kC HBv1.out q_l q_2
  have qn_3 := kC HBv1.out q_l q_3
  have qn_4 := kC HBv1.out q_l q_4
  have qn_l := Nat.lt_of_lt_of_le q_l HBv1.out.size
  clear q_0 q_1 q_2 q_3 q_4 q_l
  have HA2n := Lib.hid (HA2.out.keep HBv1.out)
  clear k_f k_l k_0 k_1 k_2 k_3 k_4 k_5 k_6 k_7 k_8 k_9 k_10 k_11 hv1 hSc1
  have k_0 := Hv1.out.e0
  have k_1 := Hv1.out.e1
  have k_2 := Hv1.out.e2
  have k_3 := Hv1.out.e3
  have k_4 := Hv1.out.e4
  have k_5 := Hv1.out.e5
  have k_6 := Hv1.out.e6
  have k_7 := Hv1.out.e7
  have k_8 := Hv1.out.e8
  have k_9 := Hv1.out.e9
  have k_10 := Hv1.out.e10
  have k_11 := Hv1.out.e11
  have k_f := Hv1.out.fz
  have k_l := Hv1.out.lt
  have hwJ : IntKind.i64.wrap ((s.x : Int) + (n : Int)) = (s.x : Int) + (n : Int) := IntWalk.i64_in _ ⟨by omega, by omega⟩
  go_upto_region 11 with fail
  have hSc2 := And.intro k_0 k_2
  refine wp_region_G (fun w' => w'.cell? ⟨b, 0, none⟩ = some (.int .i64 (s.w : Int)) ∧ w'.cell? ⟨b, 2, none⟩ = some (.int .i64 (s.x : Int))) (fun i => i == 15) (by kernel_rfl) hSc2 ?_
  refine tW ?_ 0 rfl ?_ ?_; rotate_left
  · intro w' hSw; go_simp; try rfl
  try simp only [Act.put,j1,j2,j3,j4,j5,j6]
  refine tW ?_ 1 rfl ?_ ?_; rotate_left
  · intro w' hSw; go_simp; try rfl
  try simp only [Act.put,j1,j2,j3,j4,j5,j6]
  refine tW ?_ 2 rfl ?_ ?_; rotate_left
  · intro w' hSw; go_simp; try rfl
  try simp only [Act.put,j1,j2,j3,j4,j5,j6]
  refine tW ?_ 3 rfl ?_ ?_; rotate_left
  · intro w' hSw; go_simp; try rfl
  try simp only [Act.put,j1,j2,j3,j4,j5,j6]
  refine tL ?_ 4 rfl hSc2 ?_ ?_; rotate_left
  · intro w' hSw; obtain ⟨s0, s1⟩ := hSw; go_simp; try rfl
  try simp only [Act.put,j1,j2,j3,j4,j5,j6]
  refine tW ?_ 5 rfl ?_ ?_; rotate_left
  · intro w' hSw; go_simp; try rfl
  try simp only [Act.put,j1,j2,j3,j4,j5,j6]
  refine tW ?_ 6 rfl ?_ ?_; rotate_left
  · intro w' hSw; go_simp; try rfl
  try simp only [Act.put,j1,j2,j3,j4,j5,j6]
  refine tW ?_ 7 rfl ?_ ?_; rotate_left
  · intro w' hSw; go_simp; try rfl
  try simp only [Act.put,j1,j2,j3,j4,j5,j6]
  refine tW ?_ 8 rfl ?_ ?_; rotate_left
  · intro w' hSw; go_simp; try rfl
  try simp only [Act.put,j1,j2,j3,j4,j5,j6]
  refine tL ?_ 9 rfl hSc2 ?_ ?_; rotate_left
  · intro w' hSw; obtain ⟨s0, s1⟩ := hSw; go_simp; try rfl
  try simp only [Act.put,j1,j2,j3,j4,j5,j6]
  refine tW ?_ 10 rfl ?_ ?_; rotate_left
  · intro w' hSw; go_simp; try rfl
  try simp only [Act.put,j1,j2,j3,j4,j5,j6]
  refine tW ?_ 11 rfl ?_ ?_; rotate_left
  · intro w' hSw; go_simp; try rfl
  try simp only [Act.put,j1,j2,j3,j4,j5,j6]
  refine tW ?_ 12 rfl ?_ ?_; rotate_left
  · intro w' hSw; go_simp; try rfl
  try simp only [Act.put,j1,j2,j3,j4,j5,j6]
  refine tW ?_ 13 rfl ?_ ?_; rotate_left
  · intro w' hSw; go_simp; try rfl
  try simp only [Act.put,j1,j2,j3,j4,j5,j6]
  refine tW ?_ 14 rfl ?_ ?_; rotate_left
  · intro w' hSw; go_simp; try rfl
  try simp only [Act.put,j1,j2,j3,j4,j5,j6]
  refine wpAnyG_one (i := 15) (by kernel_rfl) rfl hSc2 (fun K' hK => ?_)
  simp only [j1,j2,j3]
  go_simp
  refine hK.out _ _ (Or.inl rfl) ?_
  clear hK K'
  try simp only [Act.put,j1,j2,j3,j4,j5,j6]
  refine wpAnyG_done (by kernel_rfl) ?_ _
  go_wp2_with fail
  first | refine bodyPost_end (v := .tuple #[]) (by simp [results, Tryz.results82]) rfl ?_ | refine bodyPost_ret (v := .tuple #[]) (by simp [results, Tryz.results82]) rfl ?_
  refine ⟨rfl, ?_⟩
  unfold csiS
  rw [if_neg (by decide), if_neg (by decide), if_pos (by decide)]
  rw [HN.out]
  refine ScrR.mk (cc := cc) (dh := dh) ?_ ?_
  · repeat (with_reducible refine ScrAt.drew ?_)
    exact Hv1.out.setv2 _ (by omega)
  · repeat (with_reducible refine Upd.drew ?_)
    exact HUv1.out.set2 _
theorem csi68_c (lo b : Nat) (s : Scr) (g cc : Nat) (ah : Option Addr) (dh : Nat) (w : World) (kd : Int) (xs : List Int) (aa : Option Addr) (ca : Nat) (tx : ByteArray) (h : ScrAt lo b 0 s g cc ah dh w) (ok : ScrOK s) (hlo : lo ≤ w.heap.size) (ha : Sl intE 1 w aa xs) (hna : ∀ k ∈ blkOf aa, k ≠ b ∧ k ≠ g ∧ k ∉ blkOf ah) (hx8 : xs.length ≤ 8) (hxr : ∀ x ∈ xs, -1 ≤ x ∧ x ≤ 9999) :
    Calls Tryz.prog 82 #[.pointer (some ⟨b, 0, none⟩), .agg #[.int .i64 kd, .int .i64 68, .bool false, .slice aa xs.length ca, .string tx]] w fun e w' => e = .returned (.tuple #[]) ∧ ScrR lo b 0 (csiS s 68 xs) g ah w w' := by
  have HS := Lib.hid h
  have HOK := Lib.hid ok
  have HA := Lib.hid ha
  have HNA := Lib.hid hna
  have HXR := Lib.hid hxr
  have HX8 := Lib.hid hx8
  have hw1 := ok.w1
  have hw2 := ok.w2
  have hh1 := ok.h1
  have hh2 := ok.h2
  have hx := ok.hx
  have hy := ok.hy
  have hcur := ok.cur
  have hcn := ok.cn
  have hlt := h.lt
  obtain ⟨n, hn⟩ : ∃ n, arg1 xs 0 = n := ⟨_, rfl⟩
  obtain ⟨A0, hA0⟩ : ∃ a, argA xs 0 1 = a := ⟨_, rfl⟩
  have hAb : -1 ≤ A0 ∧ A0 ≤ 9999 := by rw [← hA0]; exact argA_bd HXR.out (by omega) (by omega)
  have hm : max 1 A0 = (n : Int) := by rw [← hn, ← hA0]; unfold arg1; omega
  have hn1 : 1 ≤ n := by omega
  have hn2 : n ≤ 9999 := by omega
  have HN := Lib.hid hn
  have HA0 := Lib.hid hA0
  obtain ⟨p, hp⟩ : ∃ p, s.y * s.w = p := ⟨_, rfl⟩
  obtain ⟨mx, hmx⟩ : ∃ m, min s.x (s.w - 1) = m := ⟨_, rfl⟩
  obtain ⟨cr, hcr⟩ : ∃ c, curS s = c := ⟨_, rfl⟩
  obtain ⟨pn, hpn⟩ : ∃ q, (s.y + 1) * s.w = q := ⟨_, rfl⟩
  obtain ⟨nn, hnn⟩ : ∃ q, s.w * s.h = q := ⟨_, rfl⟩
  have hpi : (s.y : Int) * (s.w : Int) = (p : Int) := by rw [← hp]; exact (Int.natCast_mul _ _).symm
  have hpni : ((s.y : Int) + 1) * (s.w : Int) = (pn : Int) := by rw [← hpn]; exact (Int.natCast_mul (s.y + 1) s.w).symm
  have hnni : (s.w : Int) * (s.h : Int) = (nn : Int) := by rw [← hnn]; exact (Int.natCast_mul _ _).symm
  have hmi : min (s.x : Int) ((s.w : Int) - 1) = (mx : Int) := by omega
  have hcri : (p : Int) + (mx : Int) = (cr : Int) := by rw [← hcr, ← hp, ← hmx]; unfold curS; omega
  have hn240 : nn ≤ 240 := by rw [← hnn]; exact Nat.mul_le_mul hw2 hh2
  rw [hcr, hp, hpn, hnn] at hcur
  rw [hnn] at hcn
  obtain ⟨hc1, hc2, hc3⟩ := hcur
  have HCN := Lib.hid hcn
  have HP := Lib.hid hp
  have HMX := Lib.hid hmx
  have HCR := Lib.hid hcr
  have HPN := Lib.hid hpn
  have HNN := Lib.hid hnn
  have hwA : IntKind.i64.wrap ((s.w : Int) - 1) = (s.w : Int) - 1 := IntWalk.i64_in _ ⟨by omega, by omega⟩
  have hwB : IntKind.i64.wrap (p : Int) = (p : Int) := IntWalk.i64_in _ ⟨by omega, by omega⟩
  have hwC : IntKind.i64.wrap (cr : Int) = (cr : Int) := IntWalk.i64_in _ ⟨by omega, by omega⟩
  have hwD : IntKind.i64.wrap (pn : Int) = (pn : Int) := IntWalk.i64_in _ ⟨by omega, by omega⟩
  have hwE : IntKind.i64.wrap (nn : Int) = (nn : Int) := IntWalk.i64_in _ ⟨by omega, by omega⟩
  have hwF : IntKind.i64.wrap ((s.y : Int) + 1) = (s.y : Int) + 1 := IntWalk.i64_in _ ⟨by omega, by omega⟩
  have hwG : IntKind.i64.wrap ((cr : Int) + 1) = (cr : Int) + 1 := IntWalk.i64_in _ ⟨by omega, by omega⟩
  obtain ⟨ln, hln⟩ : ∃ l, xs.length = l := ⟨_, rfl⟩
  have HLN := Lib.hid hln
  have HCALL : ∀ (i : Nat) (d : Int) (W : World), i ≤ 7 → Sl intE 1 W aa xs → Calls Tryz.prog 117 #[.agg #[.int .i64 kd, .int .i64 68, .bool false, .slice aa ln ca, .string tx], .int .i64 i, .int .i64 d] W fun e w' => e = .returned (.int .i64 (argA xs i d)) ∧ Below W.heap.size W w' := fun i d W hi hW => by
    rw [← hln]
    exact l03ArgG_c kd 68 false tx xs aa ca i d W hW hi hx8
  rw [hln]
  clear h ok ha hna hxr hx8 hn hA0 hp hmx hcr hpn hnn hcn hln
  go_enter Tryz.func82, Tryz.ntmps82
  go_wp2_with fail
  refine (HCALL 0 1 _ (by omega) (HA.out.alloc _)).mono ?_
  rintro e v0 ⟨rfl, hb0⟩
  rw [HA0.out]
  have HB0 : Hid (Below w.heap.size w v0) := Lib.hid (((Below.refl w.heap.size w).alloc (Nat.le_refl _) _).trans (hb0.mono (by simp)))
  have hz0 := HB0.out.size
  have q_l : w.heap.size < v0.heap.size := by have := hb0.size; simp at this; omega
  have q_0 : v0.cell? ⟨w.heap.size, 0, none⟩ = some (.int .i64 kd) := kC hb0 (by simp) (by simp [go_sem])
  have q_1 : v0.cell? ⟨w.heap.size, 1, none⟩ = some (.int .i64 68) := kC hb0 (by simp) (by simp [go_sem])
  have q_2 : v0.cell? ⟨w.heap.size, 2, none⟩ = some (.bool false) := kC hb0 (by simp) (by simp [go_sem])
  have q_3 : v0.cell? ⟨w.heap.size, 3, none⟩ = some (.slice aa ln ca) := kC hb0 (by simp) (by simp [go_sem])
  have q_4 : v0.cell? ⟨w.heap.size, 4, none⟩ = some (.string tx) := kC hb0 (by simp) (by simp [go_sem])
  clear hb0
  have q_b : ¬ w.heap.size = b := by omega
  have HA_nb : ∀ k ∈ blkOf aa, ¬ k = b := fun k hk => (HNA.out k hk).1
  have Hv0 := Lib.hid (HS.out.below HB0.out)
  have HA2 := Lib.hid (HA.out.keep HB0.out)
  have HUv0 : Hid (Upd b 0 (0 + 12) (fun k => k = g ∨ k ∈ blkOf ah) w v0) := Lib.hid (Upd.refl'.below HB0.out HS.out.lt)
  have HA2_nb := HA_nb
  have k_0 := Hv0.out.e0
  have k_1 := Hv0.out.e1
  have k_2 := Hv0.out.e2
  have k_3 := Hv0.out.e3
  have k_4 := Hv0.out.e4
  have k_5 := Hv0.out.e5
  have k_6 := Hv0.out.e6
  have k_7 := Hv0.out.e7
  have k_8 := Hv0.out.e8
  have k_9 := Hv0.out.e9
  have k_10 := Hv0.out.e10
  have k_11 := Hv0.out.e11
  have k_f := Hv0.out.fz
  have k_l := Hv0.out.lt
  go_upto_region 4 with fail
  have hSc1 := And.intro k_0 (And.intro k_2 k_3)
  refine wp_region_G (fun w' => w'.cell? ⟨b, 0, none⟩ = some (.int .i64 (s.w : Int)) ∧ w'.cell? ⟨b, 2, none⟩ = some (.int .i64 (s.x : Int)) ∧ w'.cell? ⟨b, 3, none⟩ = some (.int .i64 (s.y : Int))) (fun i => false) (by kernel_rfl) hSc1 ?_
  refine tW ?_ 0 rfl ?_ ?_; rotate_left
  · intro w' hSw; go_simp; try rfl
  try simp only [Act.put,j1,j2,j3,j4,j5,j6]
  refine tW ?_ 1 rfl ?_ ?_; rotate_left
  · intro w' hSw; go_simp; try rfl
  try simp only [Act.put,j1,j2,j3,j4,j5,j6]
  refine tW ?_ 2 rfl ?_ ?_; rotate_left
  · intro w' hSw; go_simp; try rfl
  try simp only [Act.put,j1,j2,j3,j4,j5,j6]
  refine tL ?_ 3 rfl hSc1 ?_ ?_; rotate_left
  · intro w' hSw; obtain ⟨s0, s1, s2⟩ := hSw; go_simp; try rfl
  try simp only [Act.put,j1,j2,j3,j4,j5,j6]
  refine tW ?_ 4 rfl ?_ ?_; rotate_left
  · intro w' hSw; go_simp; try rfl
  try simp only [Act.put,j1,j2,j3,j4,j5,j6]
  refine tW ?_ 5 rfl ?_ ?_; rotate_left
  · intro w' hSw; go_simp; try rfl
  try simp only [Act.put,j1,j2,j3,j4,j5,j6]
  refine tW ?_ 6 rfl ?_ ?_; rotate_left
  · intro w' hSw; go_simp; try rfl
  try simp only [Act.put,j1,j2,j3,j4,j5,j6]
  refine tL ?_ 7 rfl hSc1 ?_ ?_; rotate_left
  · intro w' hSw; obtain ⟨s0, s1, s2⟩ := hSw; go_simp; try rfl
  try simp only [Act.put,j1,j2,j3,j4,j5,j6]
  refine tW ?_ 8 rfl ?_ ?_; rotate_left
  · intro w' hSw; go_simp; try rfl
  try simp only [Act.put,j1,j2,j3,j4,j5,j6]
  refine tW ?_ 9 rfl ?_ ?_; rotate_left
  · intro w' hSw; go_simp; try rfl
  try simp only [Act.put,j1,j2,j3,j4,j5,j6]
  refine tW ?_ 10 rfl ?_ ?_; rotate_left
  · intro w' hSw; go_simp; try rfl
  try simp only [Act.put,j1,j2,j3,j4,j5,j6]
  refine tW ?_ 11 rfl ?_ ?_; rotate_left
  · intro w' hSw; go_simp; try rfl
  try simp only [Act.put,j1,j2,j3,j4,j5,j6]
  refine tL ?_ 12 rfl hSc1 ?_ ?_; rotate_left
  · intro w' hSw; obtain ⟨s0, s1, s2⟩ := hSw; go_simp; try rfl
  try simp only [Act.put,j1,j2,j3,j4,j5,j6]
  refine tW ?_ 13 rfl ?_ ?_; rotate_left
  · intro w' hSw; go_simp; try rfl
  try simp only [Act.put,j1,j2,j3,j4,j5,j6]
  refine tW ?_ 14 rfl ?_ ?_; rotate_left
  · intro w' hSw; go_simp; try rfl
  try simp only [Act.put,j1,j2,j3,j4,j5,j6]
  refine tW ?_ 15 rfl ?_ ?_; rotate_left
  · intro w' hSw; go_simp; try rfl
  try simp only [Act.put,j1,j2,j3,j4,j5,j6]
  refine tL ?_ 16 rfl hSc1 ?_ ?_; rotate_left
  · intro w' hSw; obtain ⟨s0, s1, s2⟩ := hSw; go_simp; try rfl
  try simp only [Act.put,j1,j2,j3,j4,j5,j6]
  refine tW ?_ 17 rfl ?_ ?_; rotate_left
  · intro w' hSw; go_simp; try rfl
  try simp only [Act.put,j1,j2,j3,j4,j5,j6]
  refine tW ?_ 18 rfl ?_ ?_; rotate_left
  · intro w' hSw; go_simp; try rfl
  try simp only [Act.put,j1,j2,j3,j4,j5,j6]
  refine tW ?_ 19 rfl ?_ ?_; rotate_left
  · intro w' hSw; go_simp; try rfl
  try simp only [Act.put,j1,j2,j3,j4,j5,j6]
  refine tW ?_ 20 rfl ?_ ?_; rotate_left
  · intro w' hSw; go_simp; try rfl
  try simp only [Act.put,j1,j2,j3,j4,j5,j6]
  refine wpAnyG_done (by kernel_rfl) ?_ _
  obtain ⟨v1, hv1⟩ : ∃ x, v0.drew = x := ⟨_, rfl⟩
  have HBv1 : Hid (Below v0.heap.size v0 v1) := Lib.hid (by rw [← hv1]; exact (Below.refl _ _).drew)
  rw [hv1]
  have hzv1 := HBv1.out.size
  have Hv1 := Lib.hid (Hv0.out.below HBv1.out)
  have HUv1 : Hid (Upd b 0 (0 + 12) (fun k => k = g ∨ k ∈ blkOf ah) w v1) := Lib.hid (HUv0.out.below HBv1.out Hv0.out.lt)
  have qn_0 := kC HBv1.out q_l q_0
  have qn_1 := kC HBv1.out q_l q_1
  have qn_2 := kC HBv1.out q_l q_2
  have qn_3 := kC HBv1.out q_l q_3
  have qn_4 := kC HBv1.out q_l q_4
  have qn_l := Nat.lt_of_lt_of_le q_l HBv1.out.size
  clear q_0 q_1 q_2 q_3 q_4 q_l
  have HA2n := Lib.hid (HA2.out.keep HBv1.out)
  clear k_f k_l k_0 k_1 k_2 k_3 k_4 k_5 k_6 k_7 k_8 k_9 k_10 k_11 hv1 hSc1
  have k_0 := Hv1.out.e0
  have k_1 := Hv1.out.e1
  have k_2 := Hv1.out.e2
  have k_3 := Hv1.out.e3
  have k_4 := Hv1.out.e4
  have k_5 := Hv1.out.e5
  have k_6 := Hv1.out.e6
  have k_7 := Hv1.out.e7
  have k_8 := Hv1.out.e8
  have k_9 := Hv1.out.e9
  have k_10 := Hv1.out.e10
  have k_11 := Hv1.out.e11
  have k_f := Hv1.out.fz
  have k_l := Hv1.out.lt
  have hwJ : IntKind.i64.wrap ((mx : Int) - (n : Int)) = (mx : Int) - (n : Int) := IntWalk.i64_in _ ⟨by omega, by omega⟩
  go_upto_region 13 with fail
  have hSc2 := And.intro k_0 k_2
  refine wp_region_G (fun w' => w'.cell? ⟨b, 0, none⟩ = some (.int .i64 (s.w : Int)) ∧ w'.cell? ⟨b, 2, none⟩ = some (.int .i64 (s.x : Int))) (fun i => i == 16) (by kernel_rfl) hSc2 ?_
  refine tW ?_ 0 rfl ?_ ?_; rotate_left
  · intro w' hSw; go_simp; try rfl
  try simp only [Act.put,j1,j2,j3,j4,j5,j6]
  refine tW ?_ 1 rfl ?_ ?_; rotate_left
  · intro w' hSw; go_simp; try rfl
  try simp only [Act.put,j1,j2,j3,j4,j5,j6]
  refine tW ?_ 2 rfl ?_ ?_; rotate_left
  · intro w' hSw; go_simp; try rfl
  try simp only [Act.put,j1,j2,j3,j4,j5,j6]
  refine tW ?_ 3 rfl ?_ ?_; rotate_left
  · intro w' hSw; go_simp; try rfl
  try simp only [Act.put,j1,j2,j3,j4,j5,j6]
  refine tL ?_ 4 rfl hSc2 ?_ ?_; rotate_left
  · intro w' hSw; obtain ⟨s0, s1⟩ := hSw; go_simp; try rfl
  try simp only [Act.put,j1,j2,j3,j4,j5,j6]
  refine tW ?_ 5 rfl ?_ ?_; rotate_left
  · intro w' hSw; go_simp; try rfl
  try simp only [Act.put,j1,j2,j3,j4,j5,j6]
  refine tW ?_ 6 rfl ?_ ?_; rotate_left
  · intro w' hSw; go_simp; try rfl
  try simp only [Act.put,j1,j2,j3,j4,j5,j6]
  refine tW ?_ 7 rfl ?_ ?_; rotate_left
  · intro w' hSw; go_simp; try rfl
  try simp only [Act.put,j1,j2,j3,j4,j5,j6]
  refine tL ?_ 8 rfl hSc2 ?_ ?_; rotate_left
  · intro w' hSw; obtain ⟨s0, s1⟩ := hSw; go_simp; try rfl
  try simp only [Act.put,j1,j2,j3,j4,j5,j6]
  refine tW ?_ 9 rfl ?_ ?_; rotate_left
  · intro w' hSw; go_simp; try rfl
  try simp only [Act.put,j1,j2,j3,j4,j5,j6]
  refine tW ?_ 10 rfl ?_ ?_; rotate_left
  · intro w' hSw; go_simp; try rfl
  try simp only [Act.put,j1,j2,j3,j4,j5,j6]
  refine tW ?_ 11 rfl ?_ ?_; rotate_left
  · intro w' hSw; go_simp; try rfl
  try simp only [Act.put,j1,j2,j3,j4,j5,j6]
  refine tW ?_ 12 rfl ?_ ?_; rotate_left
  · intro w' hSw; go_simp; try rfl
  try simp only [Act.put,j1,j2,j3,j4,j5,j6]
  refine tW ?_ 13 rfl ?_ ?_; rotate_left
  · intro w' hSw; go_simp; try rfl
  try simp only [Act.put,j1,j2,j3,j4,j5,j6]
  refine tW ?_ 14 rfl ?_ ?_; rotate_left
  · intro w' hSw; go_simp; try rfl
  try simp only [Act.put,j1,j2,j3,j4,j5,j6]
  refine tW ?_ 15 rfl ?_ ?_; rotate_left
  · intro w' hSw; go_simp; try rfl
  try simp only [Act.put,j1,j2,j3,j4,j5,j6]
  refine wpAnyG_one (i := 16) (by kernel_rfl) rfl hSc2 (fun K' hK => ?_)
  simp only [j1,j2,j3]
  go_simp
  refine hK.out _ _ (Or.inl rfl) ?_
  clear hK K'
  try simp only [Act.put,j1,j2,j3,j4,j5,j6]
  refine wpAnyG_done (by kernel_rfl) ?_ _
  go_wp2_with fail
  first | refine bodyPost_end (v := .tuple #[]) (by simp [results, Tryz.results82]) rfl ?_ | refine bodyPost_ret (v := .tuple #[]) (by simp [results, Tryz.results82]) rfl ?_
  refine ⟨rfl, ?_⟩
  unfold csiS
  rw [if_neg (by decide), if_neg (by decide), if_neg (by decide), if_pos (by decide)]
  rw [HN.out, HMX.out]
  refine ScrR.mk (cc := cc) (dh := dh) ?_ ?_
  · repeat (with_reducible refine ScrAt.drew ?_)
    exact Hv1.out.setv2 _ (by omega)
  · repeat (with_reducible refine Upd.drew ?_)
    exact HUv1.out.set2 _
end
section
open Go.RowKit
theorem csi72_c (lo b : Nat) (s : Scr) (g cc : Nat) (ah : Option Addr) (dh : Nat) (w : World) (kd : Int) (xs : List Int) (aa : Option Addr) (ca : Nat) (tx : ByteArray) (h : ScrAt lo b 0 s g cc ah dh w) (ok : ScrOK s) (hlo : lo ≤ w.heap.size) (ha : Sl intE 1 w aa xs) (hna : ∀ k ∈ blkOf aa, k ≠ b ∧ k ≠ g ∧ k ∉ blkOf ah) (hx8 : xs.length ≤ 8) (hxr : ∀ x ∈ xs, -1 ≤ x ∧ x ≤ 9999) :
    Calls Tryz.prog 82 #[.pointer (some ⟨b, 0, none⟩), .agg #[.int .i64 kd, .int .i64 72, .bool false, .slice aa xs.length ca, .string tx]] w fun e w' => e = .returned (.tuple #[]) ∧ ScrR lo b 0 (csiS s 72 xs) g ah w w' := by
  have HS := Lib.hid h
  have HOK := Lib.hid ok
  have HA := Lib.hid ha
  have HNA := Lib.hid hna
  have HXR := Lib.hid hxr
  have HX8 := Lib.hid hx8
  have hw1 := ok.w1
  have hw2 := ok.w2
  have hh1 := ok.h1
  have hh2 := ok.h2
  have hx := ok.hx
  have hy := ok.hy
  have hcur := ok.cur
  have hcn := ok.cn
  have hlt := h.lt
  obtain ⟨n, hn⟩ : ∃ n, arg1 xs 0 = n := ⟨_, rfl⟩
  obtain ⟨A0, hA0⟩ : ∃ a, argA xs 0 1 = a := ⟨_, rfl⟩
  have hAb : -1 ≤ A0 ∧ A0 ≤ 9999 := by rw [← hA0]; exact argA_bd HXR.out (by omega) (by omega)
  have hm : max 1 A0 = (n : Int) := by rw [← hn, ← hA0]; unfold arg1; omega
  have hn1 : 1 ≤ n := by omega
  have hn2 : n ≤ 9999 := by omega
  have HN := Lib.hid hn
  have HA0 := Lib.hid hA0
  obtain ⟨p, hp⟩ : ∃ p, s.y * s.w = p := ⟨_, rfl⟩
  obtain ⟨mx, hmx⟩ : ∃ m, min s.x (s.w - 1) = m := ⟨_, rfl⟩
  obtain ⟨cr, hcr⟩ : ∃ c, curS s = c := ⟨_, rfl⟩
  obtain ⟨pn, hpn⟩ : ∃ q, (s.y + 1) * s.w = q := ⟨_, rfl⟩
  obtain ⟨nn, hnn⟩ : ∃ q, s.w * s.h = q := ⟨_, rfl⟩
  have hpi : (s.y : Int) * (s.w : Int) = (p : Int) := by rw [← hp]; exact (Int.natCast_mul _ _).symm
  have hpni : ((s.y : Int) + 1) * (s.w : Int) = (pn : Int) := by rw [← hpn]; exact (Int.natCast_mul (s.y + 1) s.w).symm
  have hnni : (s.w : Int) * (s.h : Int) = (nn : Int) := by rw [← hnn]; exact (Int.natCast_mul _ _).symm
  have hmi : min (s.x : Int) ((s.w : Int) - 1) = (mx : Int) := by omega
  have hcri : (p : Int) + (mx : Int) = (cr : Int) := by rw [← hcr, ← hp, ← hmx]; unfold curS; omega
  have hn240 : nn ≤ 240 := by rw [← hnn]; exact Nat.mul_le_mul hw2 hh2
  rw [hcr, hp, hpn, hnn] at hcur
  rw [hnn] at hcn
  obtain ⟨hc1, hc2, hc3⟩ := hcur
  have HCN := Lib.hid hcn
  have HP := Lib.hid hp
  have HMX := Lib.hid hmx
  have HCR := Lib.hid hcr
  have HPN := Lib.hid hpn
  have HNN := Lib.hid hnn
  have hwA : IntKind.i64.wrap ((s.w : Int) - 1) = (s.w : Int) - 1 := IntWalk.i64_in _ ⟨by omega, by omega⟩
  have hwB : IntKind.i64.wrap (p : Int) = (p : Int) := IntWalk.i64_in _ ⟨by omega, by omega⟩
  have hwC : IntKind.i64.wrap (cr : Int) = (cr : Int) := IntWalk.i64_in _ ⟨by omega, by omega⟩
  have hwD : IntKind.i64.wrap (pn : Int) = (pn : Int) := IntWalk.i64_in _ ⟨by omega, by omega⟩
  have hwE : IntKind.i64.wrap (nn : Int) = (nn : Int) := IntWalk.i64_in _ ⟨by omega, by omega⟩
  have hwF : IntKind.i64.wrap ((s.y : Int) + 1) = (s.y : Int) + 1 := IntWalk.i64_in _ ⟨by omega, by omega⟩
  have hwG : IntKind.i64.wrap ((cr : Int) + 1) = (cr : Int) + 1 := IntWalk.i64_in _ ⟨by omega, by omega⟩
  obtain ⟨ln, hln⟩ : ∃ l, xs.length = l := ⟨_, rfl⟩
  have HLN := Lib.hid hln
  have HCALL : ∀ (i : Nat) (d : Int) (W : World), i ≤ 7 → Sl intE 1 W aa xs → Calls Tryz.prog 117 #[.agg #[.int .i64 kd, .int .i64 72, .bool false, .slice aa ln ca, .string tx], .int .i64 i, .int .i64 d] W fun e w' => e = .returned (.int .i64 (argA xs i d)) ∧ Below W.heap.size W w' := fun i d W hi hW => by
    rw [← hln]
    exact l03ArgG_c kd 72 false tx xs aa ca i d W hW hi hx8
  rw [hln]
  clear h ok ha hna hxr hx8 hn hA0 hp hmx hcr hpn hnn hcn hln
  go_enter Tryz.func82, Tryz.ntmps82
  go_wp2_with fail
  refine (HCALL 0 1 _ (by omega) (HA.out.alloc _)).mono ?_
  rintro e v0 ⟨rfl, hb0⟩
  rw [HA0.out]
  have HB0 : Hid (Below w.heap.size w v0) := Lib.hid (((Below.refl w.heap.size w).alloc (Nat.le_refl _) _).trans (hb0.mono (by simp)))
  have hz0 := HB0.out.size
  have q_l : w.heap.size < v0.heap.size := by have := hb0.size; simp at this; omega
  have q_0 : v0.cell? ⟨w.heap.size, 0, none⟩ = some (.int .i64 kd) := kC hb0 (by simp) (by simp [go_sem])
  have q_1 : v0.cell? ⟨w.heap.size, 1, none⟩ = some (.int .i64 72) := kC hb0 (by simp) (by simp [go_sem])
  have q_2 : v0.cell? ⟨w.heap.size, 2, none⟩ = some (.bool false) := kC hb0 (by simp) (by simp [go_sem])
  have q_3 : v0.cell? ⟨w.heap.size, 3, none⟩ = some (.slice aa ln ca) := kC hb0 (by simp) (by simp [go_sem])
  have q_4 : v0.cell? ⟨w.heap.size, 4, none⟩ = some (.string tx) := kC hb0 (by simp) (by simp [go_sem])
  clear hb0
  have q_b : ¬ w.heap.size = b := by omega
  have HA_nb : ∀ k ∈ blkOf aa, ¬ k = b := fun k hk => (HNA.out k hk).1
  have Hv0 := Lib.hid (HS.out.below HB0.out)
  have HA2 := Lib.hid (HA.out.keep HB0.out)
  have HUv0 : Hid (Upd b 0 (0 + 12) (fun k => k = g ∨ k ∈ blkOf ah) w v0) := Lib.hid (Upd.refl'.below HB0.out HS.out.lt)
  have HA2_nb := HA_nb
  have k_0 := Hv0.out.e0
  have k_1 := Hv0.out.e1
  have k_2 := Hv0.out.e2
  have k_3 := Hv0.out.e3
  have k_4 := Hv0.out.e4
  have k_5 := Hv0.out.e5
  have k_6 := Hv0.out.e6
  have k_7 := Hv0.out.e7
  have k_8 := Hv0.out.e8
  have k_9 := Hv0.out.e9
  have k_10 := Hv0.out.e10
  have k_11 := Hv0.out.e11
  have k_f := Hv0.out.fz
  have k_l := Hv0.out.lt
  go_upto_region 4 with fail
  have hSc1 := And.intro k_0 (And.intro k_2 k_3)
  refine wp_region_G (fun w' => w'.cell? ⟨b, 0, none⟩ = some (.int .i64 (s.w : Int)) ∧ w'.cell? ⟨b, 2, none⟩ = some (.int .i64 (s.x : Int)) ∧ w'.cell? ⟨b, 3, none⟩ = some (.int .i64 (s.y : Int))) (fun i => false) (by kernel_rfl) hSc1 ?_
  refine tW ?_ 0 rfl ?_ ?_; rotate_left
  · intro w' hSw; go_simp; try rfl
  try simp only [Act.put,j1,j2,j3,j4,j5,j6]
  refine tW ?_ 1 rfl ?_ ?_; rotate_left
  · intro w' hSw; go_simp; try rfl
  try simp only [Act.put,j1,j2,j3,j4,j5,j6]
  refine tW ?_ 2 rfl ?_ ?_; rotate_left
  · intro w' hSw; go_simp; try rfl
  try simp only [Act.put,j1,j2,j3,j4,j5,j6]
  refine tL ?_ 3 rfl hSc1 ?_ ?_; rotate_left
  · intro w' hSw; obtain ⟨s0, s1, s2⟩ := hSw; go_simp; try rfl
  try simp only [Act.put,j1,j2,j3,j4,j5,j6]
  refine tW ?_ 4 rfl ?_ ?_; rotate_left
  · intro w' hSw; go_simp; try rfl
  try simp only [Act.put,j1,j2,j3,j4,j5,j6]
  refine tW ?_ 5 rfl ?_ ?_; rotate_left
  · intro w' hSw; go_simp; try rfl
  try simp only [Act.put,j1,j2,j3,j4,j5,j6]
  refine tW ?_ 6 rfl ?_ ?_; rotate_left
  · intro w' hSw; go_simp; try rfl
  try simp only [Act.put,j1,j2,j3,j4,j5,j6]
  refine tL ?_ 7 rfl hSc1 ?_ ?_; rotate_left
  · intro w' hSw; obtain ⟨s0, s1, s2⟩ := hSw; go_simp; try rfl
  try simp only [Act.put,j1,j2,j3,j4,j5,j6]
  refine tW ?_ 8 rfl ?_ ?_; rotate_left
  · intro w' hSw; go_simp; try rfl
  try simp only [Act.put,j1,j2,j3,j4,j5,j6]
  refine tW ?_ 9 rfl ?_ ?_; rotate_left
  · intro w' hSw; go_simp; try rfl
  try simp only [Act.put,j1,j2,j3,j4,j5,j6]
  refine tW ?_ 10 rfl ?_ ?_; rotate_left
  · intro w' hSw; go_simp; try rfl
  try simp only [Act.put,j1,j2,j3,j4,j5,j6]
  refine tW ?_ 11 rfl ?_ ?_; rotate_left
  · intro w' hSw; go_simp; try rfl
  try simp only [Act.put,j1,j2,j3,j4,j5,j6]
  refine tL ?_ 12 rfl hSc1 ?_ ?_; rotate_left
  · intro w' hSw; obtain ⟨s0, s1, s2⟩ := hSw; go_simp; try rfl
  try simp only [Act.put,j1,j2,j3,j4,j5,j6]
  refine tW ?_ 13 rfl ?_ ?_; rotate_left
  · intro w' hSw; go_simp; try rfl
  try simp only [Act.put,j1,j2,j3,j4,j5,j6]
  refine tW ?_ 14 rfl ?_ ?_; rotate_left
  · intro w' hSw; go_simp; try rfl
  try simp only [Act.put,j1,j2,j3,j4,j5,j6]
  refine tW ?_ 15 rfl ?_ ?_; rotate_left
  · intro w' hSw; go_simp; try rfl
  try simp only [Act.put,j1,j2,j3,j4,j5,j6]
  refine tL ?_ 16 rfl hSc1 ?_ ?_; rotate_left
  · intro w' hSw; obtain ⟨s0, s1, s2⟩ := hSw; go_simp; try rfl
  try simp only [Act.put,j1,j2,j3,j4,j5,j6]
  refine tW ?_ 17 rfl ?_ ?_; rotate_left
  · intro w' hSw; go_simp; try rfl
  try simp only [Act.put,j1,j2,j3,j4,j5,j6]
  refine tW ?_ 18 rfl ?_ ?_; rotate_left
  · intro w' hSw; go_simp; try rfl
  try simp only [Act.put,j1,j2,j3,j4,j5,j6]
  refine tW ?_ 19 rfl ?_ ?_; rotate_left
  · intro w' hSw; go_simp; try rfl
  try simp only [Act.put,j1,j2,j3,j4,j5,j6]
  refine tW ?_ 20 rfl ?_ ?_; rotate_left
  · intro w' hSw; go_simp; try rfl
  try simp only [Act.put,j1,j2,j3,j4,j5,j6]
  refine wpAnyG_done (by kernel_rfl) ?_ _
  obtain ⟨v1, hv1⟩ : ∃ x, v0.drew = x := ⟨_, rfl⟩
  have HBv1 : Hid (Below v0.heap.size v0 v1) := Lib.hid (by rw [← hv1]; exact (Below.refl _ _).drew)
  rw [hv1]
  have hzv1 := HBv1.out.size
  have Hv1 := Lib.hid (Hv0.out.below HBv1.out)
  have HUv1 : Hid (Upd b 0 (0 + 12) (fun k => k = g ∨ k ∈ blkOf ah) w v1) := Lib.hid (HUv0.out.below HBv1.out Hv0.out.lt)
  have qn_0 := kC HBv1.out q_l q_0
  have qn_1 := kC HBv1.out q_l q_1
  have qn_2 := kC HBv1.out q_l q_2
  have qn_3 := kC HBv1.out q_l q_3
  have qn_4 := kC HBv1.out q_l q_4
  have qn_l := Nat.lt_of_lt_of_le q_l HBv1.out.size
  clear q_0 q_1 q_2 q_3 q_4 q_l
  have HA2n := Lib.hid (HA2.out.keep HBv1.out)
  clear k_f k_l k_0 k_1 k_2 k_3 k_4 k_5 k_6 k_7 k_8 k_9 k_10 k_11 hv1 hSc1
  have k_0 := Hv1.out.e0
  have k_1 := Hv1.out.e1
  have k_2 := Hv1.out.e2
  have k_3 := Hv1.out.e3
  have k_4 := Hv1.out.e4
  have k_5 := Hv1.out.e5
  have k_6 := Hv1.out.e6
  have k_7 := Hv1.out.e7
  have k_8 := Hv1.out.e8
  have k_9 := Hv1.out.e9
  have k_10 := Hv1.out.e10
  have k_11 := Hv1.out.e11
  have k_f := Hv1.out.fz
  have k_l := Hv1.out.lt
  have hwJ : IntKind.i64.wrap ((s.h : Int) - 1) = (s.h : Int) - 1 := IntWalk.i64_in _ ⟨by omega, by omega⟩
  have hwK : IntKind.i64.wrap ((n : Int) - 1) = (n : Int) - 1 := IntWalk.i64_in _ ⟨by omega, by omega⟩
  obtain ⟨n1, hN1⟩ : ∃ n, arg1 xs 1 = n := ⟨_, rfl⟩
  obtain ⟨A1, hA1⟩ : ∃ a, argA xs 1 1 = a := ⟨_, rfl⟩
  have hA1b : -1 ≤ A1 ∧ A1 ≤ 9999 := by rw [← hA1]; exact argA_bd HXR.out (by omega) (by omega)
  have hm1 : max 1 A1 = (n1 : Int) := by rw [← hN1, ← hA1]; unfold arg1; omega
  have hwL : IntKind.i64.wrap ((n1 : Int) - 1) = (n1 : Int) - 1 := IntWalk.i64_in _ ⟨by omega, by omega⟩
  have HN1 := Lib.hid hN1
  have HA1 := Lib.hid hA1
  clear hN1 hA1
  go_upto_region 17 with fail
  obtain ⟨v2, hv2⟩ : ∃ x, v1.setCell ⟨b, 3, none⟩ (.int .i64 (min ((s.h : Int) - 1) ((n : Int) - 1))) = x := ⟨_, rfl⟩
  have Hv2 : Hid (ScrAt lo b 0 ({ s with y := min s.h n - 1 } : Scr) g cc ah dh v2) := Lib.hid (by rw [← hv2]; exact Hv1.out.setv3 (min s.h n - 1) (by omega))
  have HUv2 : Hid (Upd b 0 (0 + 12) (fun k => k = g ∨ k ∈ blkOf ah) w v2) := Lib.hid (by rw [← hv2]; exact HUv1.out.set3 _)
  have HCv2 : Hid (Ch (· = b) v1 v2) := Lib.hid (by rw [← hv2]; exact Ch.set1' _ _ _ _)
  rw [hv2]
  have qnn_0 : v2.cell? ⟨w.heap.size, 0, none⟩ = some (.int .i64 kd) := (HCv2.out.cell (p := ⟨w.heap.size, 0, none⟩) qn_l q_b).trans qn_0
  have qnn_1 : v2.cell? ⟨w.heap.size, 1, none⟩ = some (.int .i64 72) := (HCv2.out.cell (p := ⟨w.heap.size, 1, none⟩) qn_l q_b).trans qn_1
  have qnn_2 : v2.cell? ⟨w.heap.size, 2, none⟩ = some (.bool false) := (HCv2.out.cell (p := ⟨w.heap.size, 2, none⟩) qn_l q_b).trans qn_2
  have qnn_3 : v2.cell? ⟨w.heap.size, 3, none⟩ = some (.slice aa ln ca) := (HCv2.out.cell (p := ⟨w.heap.size, 3, none⟩) qn_l q_b).trans qn_3
  have qnn_4 : v2.cell? ⟨w.heap.size, 4, none⟩ = some (.string tx) := (HCv2.out.cell (p := ⟨w.heap.size, 4, none⟩) qn_l q_b).trans qn_4
  have qnn_l := Nat.lt_of_lt_of_le qn_l HCv2.out.size
  clear qn_0 qn_1 qn_2 qn_3 qn_4 qn_l
  have HA2nn := Lib.hid (Sl.ch HA2n.out HCv2.out HA2_nb)
  clear hv2 k_f k_l k_0 k_1 k_2 k_3 k_4 k_5 k_6 k_7 k_8 k_9 k_10 k_11
  have k_0 := Hv2.out.e0
  have k_1 := Hv2.out.e1
  have k_2 := Hv2.out.e2
  have k_3 : v2.cell? ⟨b, 3, none⟩ = some (.int .i64 ((min s.h n - 1 : Nat) : Int)) := Hv2.out.c3
  have k_4 := Hv2.out.e4
  have k_5 := Hv2.out.e5
  have k_6 := Hv2.out.e6
  have k_7 := Hv2.out.e7
  have k_8 := Hv2.out.e8
  have k_9 := Hv2.out.e9
  have k_10 := Hv2.out.e10
  have k_11 := Hv2.out.e11
  have k_f := Hv2.out.fz
  have k_l := Hv2.out.lt
  have hSc2 := And.intro k_0 (And.intro qnn_0 (And.intro qnn_1 (And.intro qnn_2 (And.intro qnn_3 qnn_4))))
  refine wp_region_G (fun w' => w'.cell? ⟨b, 0, none⟩ = some (.int .i64 (s.w : Int)) ∧ w'.cell? ⟨w.heap.size, 0, none⟩ = some (.int .i64 kd) ∧ w'.cell? ⟨w.heap.size, 1, none⟩ = some (.int .i64 72) ∧ w'.cell? ⟨w.heap.size, 2, none⟩ = some (.bool false) ∧ w'.cell? ⟨w.heap.size, 3, none⟩ = some (.slice aa ln ca) ∧ w'.cell? ⟨w.heap.size, 4, none⟩ = some (.string tx)) (fun i => i == 13) (by kernel_rfl) hSc2 ?_
  refine tW ?_ 0 rfl ?_ ?_; rotate_left
  · intro w' hSw; go_simp; try rfl
  try simp only [Act.put,j1,j2,j3,j4,j5,j6]
  refine tW ?_ 1 rfl ?_ ?_; rotate_left
  · intro w' hSw; go_simp; try rfl
  try simp only [Act.put,j1,j2,j3,j4,j5,j6]
  refine tW ?_ 2 rfl ?_ ?_; rotate_left
  · intro w' hSw; go_simp; try rfl
  try simp only [Act.put,j1,j2,j3,j4,j5,j6]
  refine tW ?_ 3 rfl ?_ ?_; rotate_left
  · intro w' hSw; go_simp; try rfl
  try simp only [Act.put,j1,j2,j3,j4,j5,j6]
  refine tL ?_ 4 rfl hSc2 ?_ ?_; rotate_left
  · intro w' hSw; obtain ⟨s0, s1, s2, s3, s4, s5⟩ := hSw; go_simp; try rfl
  try simp only [Act.put,j1,j2,j3,j4,j5,j6]
  refine tW ?_ 5 rfl ?_ ?_; rotate_left
  · intro w' hSw; go_simp; try rfl
  try simp only [Act.put,j1,j2,j3,j4,j5,j6]
  refine tL ?_ 6 rfl hSc2 ?_ ?_; rotate_left
  · intro w' hSw; obtain ⟨s0, s1, s2, s3, s4, s5⟩ := hSw; go_simp; try rfl
  try simp only [Act.put,j1,j2,j3,j4,j5,j6]
  refine wpAnyG_one (i := 7) (by kernel_rfl) rfl hSc2 (fun K' hK => ?_)
  simp only [j1,j2,j3]
  go_simp
  refine (HCALL 1 1 _ (by omega) (HA2nn.out.keep ((Below.refl _ _).drew))).mono ?_
  rintro e x1 ⟨rfl, hb1⟩
  rw [HA1.out]
  have HB1 : Hid (Below v2.heap.size v2 x1) := Lib.hid (((Below.refl _ _).drew).trans hb1)
  have HX1 := Lib.hid (Hv2.out.below HB1.out)
  have e_0 := HX1.out.c0
  have e_2 := HX1.out.c2
  have e_f := HX1.out.fz
  have e_l := HX1.out.lt
  have hSx : x1.cell? ⟨b, 0, none⟩ = some (.int .i64 (s.w : Int)) ∧ x1.cell? ⟨w.heap.size, 0, none⟩ = some (.int .i64 kd) ∧ x1.cell? ⟨w.heap.size, 1, none⟩ = some (.int .i64 72) ∧ x1.cell? ⟨w.heap.size, 2, none⟩ = some (.bool false) ∧ x1.cell? ⟨w.heap.size, 3, none⟩ = some (.slice aa ln ca) ∧ x1.cell? ⟨w.heap.size, 4, none⟩ = some (.string tx) := ⟨HX1.out.c0, (HB1.out.cell (p := ⟨w.heap.size, 0, none⟩) qnn_l).trans qnn_0, (HB1.out.cell (p := ⟨w.heap.size, 1, none⟩) qnn_l).trans qnn_1, (HB1.out.cell (p := ⟨w.heap.size, 2, none⟩) qnn_l).trans qnn_2, (HB1.out.cell (p := ⟨w.heap.size, 3, none⟩) qnn_l).trans qnn_3, (HB1.out.cell (p := ⟨w.heap.size, 4, none⟩) qnn_l).trans qnn_4⟩
  clear hb1
  refine hK.out _ _ (Or.inr hSx) ?_
  clear hK K'
  try simp only [Act.put,j1,j2,j3,j4,j5,j6]
  refine tW ?_ 8 rfl ?_ ?_; rotate_left
  · intro w' hSw; go_simp; try rfl
  try simp only [Act.put,j1,j2,j3,j4,j5,j6]
  refine tW ?_ 9 rfl ?_ ?_; rotate_left
  · intro w' hSw; go_simp; try rfl
  try simp only [Act.put,j1,j2,j3,j4,j5,j6]
  refine tW ?_ 10 rfl ?_ ?_; rotate_left
  · intro w' hSw; go_simp; try rfl
  try simp only [Act.put,j1,j2,j3,j4,j5,j6]
  refine tW ?_ 11 rfl ?_ ?_; rotate_left
  · intro w' hSw; go_simp; try rfl
  try simp only [Act.put,j1,j2,j3,j4,j5,j6]
  refine tW ?_ 12 rfl ?_ ?_; rotate_left
  · intro w' hSw; go_simp; try rfl
  try simp only [Act.put,j1,j2,j3,j4,j5,j6]
  refine wpAnyG_one (i := 13) (by kernel_rfl) rfl hSx (fun K' hK => ?_)
  simp only [j1,j2,j3]
  go_simp
  refine hK.out _ _ (Or.inl rfl) ?_
  clear hK K'
  try simp only [Act.put,j1,j2,j3,j4,j5,j6]
  refine wpAnyG_done (by kernel_rfl) ?_ _
  go_wp2_with fail
  first | refine bodyPost_end (v := .tuple #[]) (by simp [results, Tryz.results82]) rfl ?_ | refine bodyPost_ret (v := .tuple #[]) (by simp [results, Tryz.results82]) rfl ?_
  refine ⟨rfl, ?_⟩
  unfold csiS
  rw [if_neg (by decide), if_neg (by decide), if_neg (by decide), if_neg (by decide), if_pos (by decide)]
  rw [HN.out, HN1.out]
  refine ScrR.mk (cc := cc) (dh := dh) ?_ ?_
  · repeat (with_reducible refine ScrAt.drew ?_)
    exact HX1.out.setv2 _ (by omega)
  · repeat (with_reducible refine Upd.drew ?_)
    exact (HUv2.out.below HB1.out Hv2.out.lt).set2 _
theorem csi102_c (lo b : Nat) (s : Scr) (g cc : Nat) (ah : Option Addr) (dh : Nat) (w : World) (kd : Int) (xs : List Int) (aa : Option Addr) (ca : Nat) (tx : ByteArray) (h : ScrAt lo b 0 s g cc ah dh w) (ok : ScrOK s) (hlo : lo ≤ w.heap.size) (ha : Sl intE 1 w aa xs) (hna : ∀ k ∈ blkOf aa, k ≠ b ∧ k ≠ g ∧ k ∉ blkOf ah) (hx8 : xs.length ≤ 8) (hxr : ∀ x ∈ xs, -1 ≤ x ∧ x ≤ 9999) :
    Calls Tryz.prog 82 #[.pointer (some ⟨b, 0, none⟩), .agg #[.int .i64 kd, .int .i64 102, .bool false, .slice aa xs.length ca, .string tx]] w fun e w' => e = .returned (.tuple #[]) ∧ ScrR lo b 0 (csiS s 102 xs) g ah w w' := by
  have HS := Lib.hid h
  have HOK := Lib.hid ok
  have HA := Lib.hid ha
  have HNA := Lib.hid hna
  have HXR := Lib.hid hxr
  have HX8 := Lib.hid hx8
  have hw1 := ok.w1
  have hw2 := ok.w2
  have hh1 := ok.h1
  have hh2 := ok.h2
  have hx := ok.hx
  have hy := ok.hy
  have hcur := ok.cur
  have hcn := ok.cn
  have hlt := h.lt
  obtain ⟨n, hn⟩ : ∃ n, arg1 xs 0 = n := ⟨_, rfl⟩
  obtain ⟨A0, hA0⟩ : ∃ a, argA xs 0 1 = a := ⟨_, rfl⟩
  have hAb : -1 ≤ A0 ∧ A0 ≤ 9999 := by rw [← hA0]; exact argA_bd HXR.out (by omega) (by omega)
  have hm : max 1 A0 = (n : Int) := by rw [← hn, ← hA0]; unfold arg1; omega
  have hn1 : 1 ≤ n := by omega
  have hn2 : n ≤ 9999 := by omega
  have HN := Lib.hid hn
  have HA0 := Lib.hid hA0
  obtain ⟨p, hp⟩ : ∃ p, s.y * s.w = p := ⟨_, rfl⟩
  obtain ⟨mx, hmx⟩ : ∃ m, min s.x (s.w - 1) = m := ⟨_, rfl⟩
  obtain ⟨cr, hcr⟩ : ∃ c, curS s = c := ⟨_, rfl⟩
  obtain ⟨pn, hpn⟩ : ∃ q, (s.y + 1) * s.w = q := ⟨_, rfl⟩
  obtain ⟨nn, hnn⟩ : ∃ q, s.w * s.h = q := ⟨_, rfl⟩
  have hpi : (s.y : Int) * (s.w : Int) = (p : Int) := by rw [← hp]; exact (Int.natCast_mul _ _).symm
  have hpni : ((s.y : Int) + 1) * (s.w : Int) = (pn : Int) := by rw [← hpn]; exact (Int.natCast_mul (s.y + 1) s.w).symm
  have hnni : (s.w : Int) * (s.h : Int) = (nn : Int) := by rw [← hnn]; exact (Int.natCast_mul _ _).symm
  have hmi : min (s.x : Int) ((s.w : Int) - 1) = (mx : Int) := by omega
  have hcri : (p : Int) + (mx : Int) = (cr : Int) := by rw [← hcr, ← hp, ← hmx]; unfold curS; omega
  have hn240 : nn ≤ 240 := by rw [← hnn]; exact Nat.mul_le_mul hw2 hh2
  rw [hcr, hp, hpn, hnn] at hcur
  rw [hnn] at hcn
  obtain ⟨hc1, hc2, hc3⟩ := hcur
  have HCN := Lib.hid hcn
  have HP := Lib.hid hp
  have HMX := Lib.hid hmx
  have HCR := Lib.hid hcr
  have HPN := Lib.hid hpn
  have HNN := Lib.hid hnn
  have hwA : IntKind.i64.wrap ((s.w : Int) - 1) = (s.w : Int) - 1 := IntWalk.i64_in _ ⟨by omega, by omega⟩
  have hwB : IntKind.i64.wrap (p : Int) = (p : Int) := IntWalk.i64_in _ ⟨by omega, by omega⟩
  have hwC : IntKind.i64.wrap (cr : Int) = (cr : Int) := IntWalk.i64_in _ ⟨by omega, by omega⟩
  have hwD : IntKind.i64.wrap (pn : Int) = (pn : Int) := IntWalk.i64_in _ ⟨by omega, by omega⟩
  have hwE : IntKind.i64.wrap (nn : Int) = (nn : Int) := IntWalk.i64_in _ ⟨by omega, by omega⟩
  have hwF : IntKind.i64.wrap ((s.y : Int) + 1) = (s.y : Int) + 1 := IntWalk.i64_in _ ⟨by omega, by omega⟩
  have hwG : IntKind.i64.wrap ((cr : Int) + 1) = (cr : Int) + 1 := IntWalk.i64_in _ ⟨by omega, by omega⟩
  obtain ⟨ln, hln⟩ : ∃ l, xs.length = l := ⟨_, rfl⟩
  have HLN := Lib.hid hln
  have HCALL : ∀ (i : Nat) (d : Int) (W : World), i ≤ 7 → Sl intE 1 W aa xs → Calls Tryz.prog 117 #[.agg #[.int .i64 kd, .int .i64 102, .bool false, .slice aa ln ca, .string tx], .int .i64 i, .int .i64 d] W fun e w' => e = .returned (.int .i64 (argA xs i d)) ∧ Below W.heap.size W w' := fun i d W hi hW => by
    rw [← hln]
    exact l03ArgG_c kd 102 false tx xs aa ca i d W hW hi hx8
  rw [hln]
  clear h ok ha hna hxr hx8 hn hA0 hp hmx hcr hpn hnn hcn hln
  go_enter Tryz.func82, Tryz.ntmps82
  go_wp2_with fail
  refine (HCALL 0 1 _ (by omega) (HA.out.alloc _)).mono ?_
  rintro e v0 ⟨rfl, hb0⟩
  rw [HA0.out]
  have HB0 : Hid (Below w.heap.size w v0) := Lib.hid (((Below.refl w.heap.size w).alloc (Nat.le_refl _) _).trans (hb0.mono (by simp)))
  have hz0 := HB0.out.size
  have q_l : w.heap.size < v0.heap.size := by have := hb0.size; simp at this; omega
  have q_0 : v0.cell? ⟨w.heap.size, 0, none⟩ = some (.int .i64 kd) := kC hb0 (by simp) (by simp [go_sem])
  have q_1 : v0.cell? ⟨w.heap.size, 1, none⟩ = some (.int .i64 102) := kC hb0 (by simp) (by simp [go_sem])
  have q_2 : v0.cell? ⟨w.heap.size, 2, none⟩ = some (.bool false) := kC hb0 (by simp) (by simp [go_sem])
  have q_3 : v0.cell? ⟨w.heap.size, 3, none⟩ = some (.slice aa ln ca) := kC hb0 (by simp) (by simp [go_sem])
  have q_4 : v0.cell? ⟨w.heap.size, 4, none⟩ = some (.string tx) := kC hb0 (by simp) (by simp [go_sem])
  clear hb0
  have q_b : ¬ w.heap.size = b := by omega
  have HA_nb : ∀ k ∈ blkOf aa, ¬ k = b := fun k hk => (HNA.out k hk).1
  have Hv0 := Lib.hid (HS.out.below HB0.out)
  have HA2 := Lib.hid (HA.out.keep HB0.out)
  have HUv0 : Hid (Upd b 0 (0 + 12) (fun k => k = g ∨ k ∈ blkOf ah) w v0) := Lib.hid (Upd.refl'.below HB0.out HS.out.lt)
  have HA2_nb := HA_nb
  have k_0 := Hv0.out.e0
  have k_1 := Hv0.out.e1
  have k_2 := Hv0.out.e2
  have k_3 := Hv0.out.e3
  have k_4 := Hv0.out.e4
  have k_5 := Hv0.out.e5
  have k_6 := Hv0.out.e6
  have k_7 := Hv0.out.e7
  have k_8 := Hv0.out.e8
  have k_9 := Hv0.out.e9
  have k_10 := Hv0.out.e10
  have k_11 := Hv0.out.e11
  have k_f := Hv0.out.fz
  have k_l := Hv0.out.lt
  go_upto_region 4 with fail
  have hSc1 := And.intro k_0 (And.intro k_2 k_3)
  refine wp_region_G (fun w' => w'.cell? ⟨b, 0, none⟩ = some (.int .i64 (s.w : Int)) ∧ w'.cell? ⟨b, 2, none⟩ = some (.int .i64 (s.x : Int)) ∧ w'.cell? ⟨b, 3, none⟩ = some (.int .i64 (s.y : Int))) (fun i => false) (by kernel_rfl) hSc1 ?_
  refine tW ?_ 0 rfl ?_ ?_; rotate_left
  · intro w' hSw; go_simp; try rfl
  try simp only [Act.put,j1,j2,j3,j4,j5,j6]
  refine tW ?_ 1 rfl ?_ ?_; rotate_left
  · intro w' hSw; go_simp; try rfl
  try simp only [Act.put,j1,j2,j3,j4,j5,j6]
  refine tW ?_ 2 rfl ?_ ?_; rotate_left
  · intro w' hSw; go_simp; try rfl
  try simp only [Act.put,j1,j2,j3,j4,j5,j6]
  refine tL ?_ 3 rfl hSc1 ?_ ?_; rotate_left
  · intro w' hSw; obtain ⟨s0, s1, s2⟩ := hSw; go_simp; try rfl
  try simp only [Act.put,j1,j2,j3,j4,j5,j6]
  refine tW ?_ 4 rfl ?_ ?_; rotate_left
  · intro w' hSw; go_simp; try rfl
  try simp only [Act.put,j1,j2,j3,j4,j5,j6]
  refine tW ?_ 5 rfl ?_ ?_; rotate_left
  · intro w' hSw; go_simp; try rfl
  try simp only [Act.put,j1,j2,j3,j4,j5,j6]
  refine tW ?_ 6 rfl ?_ ?_; rotate_left
  · intro w' hSw; go_simp; try rfl
  try simp only [Act.put,j1,j2,j3,j4,j5,j6]
  refine tL ?_ 7 rfl hSc1 ?_ ?_; rotate_left
  · intro w' hSw; obtain ⟨s0, s1, s2⟩ := hSw; go_simp; try rfl
  try simp only [Act.put,j1,j2,j3,j4,j5,j6]
  refine tW ?_ 8 rfl ?_ ?_; rotate_left
  · intro w' hSw; go_simp; try rfl
  try simp only [Act.put,j1,j2,j3,j4,j5,j6]
  refine tW ?_ 9 rfl ?_ ?_; rotate_left
  · intro w' hSw; go_simp; try rfl
  try simp only [Act.put,j1,j2,j3,j4,j5,j6]
  refine tW ?_ 10 rfl ?_ ?_; rotate_left
  · intro w' hSw; go_simp; try rfl
  try simp only [Act.put,j1,j2,j3,j4,j5,j6]
  refine tW ?_ 11 rfl ?_ ?_; rotate_left
  · intro w' hSw; go_simp; try rfl
  try simp only [Act.put,j1,j2,j3,j4,j5,j6]
  refine tL ?_ 12 rfl hSc1 ?_ ?_; rotate_left
  · intro w' hSw; obtain ⟨s0, s1, s2⟩ := hSw; go_simp; try rfl
  try simp only [Act.put,j1,j2,j3,j4,j5,j6]
  refine tW ?_ 13 rfl ?_ ?_; rotate_left
  · intro w' hSw; go_simp; try rfl
  try simp only [Act.put,j1,j2,j3,j4,j5,j6]
  refine tW ?_ 14 rfl ?_ ?_; rotate_left
  · intro w' hSw; go_simp; try rfl
  try simp only [Act.put,j1,j2,j3,j4,j5,j6]
  refine tW ?_ 15 rfl ?_ ?_; rotate_left
  · intro w' hSw; go_simp; try rfl
  try simp only [Act.put,j1,j2,j3,j4,j5,j6]
  refine tL ?_ 16 rfl hSc1 ?_ ?_; rotate_left
  · intro w' hSw; obtain ⟨s0, s1, s2⟩ := hSw; go_simp; try rfl
  try simp only [Act.put,j1,j2,j3,j4,j5,j6]
  refine tW ?_ 17 rfl ?_ ?_; rotate_left
  · intro w' hSw; go_simp; try rfl
  try simp only [Act.put,j1,j2,j3,j4,j5,j6]
  refine tW ?_ 18 rfl ?_ ?_; rotate_left
  · intro w' hSw; go_simp; try rfl
  try simp only [Act.put,j1,j2,j3,j4,j5,j6]
  refine tW ?_ 19 rfl ?_ ?_; rotate_left
  · intro w' hSw; go_simp; try rfl
  try simp only [Act.put,j1,j2,j3,j4,j5,j6]
  refine tW ?_ 20 rfl ?_ ?_; rotate_left
  · intro w' hSw; go_simp; try rfl
  try simp only [Act.put,j1,j2,j3,j4,j5,j6]
  refine wpAnyG_done (by kernel_rfl) ?_ _
  obtain ⟨v1, hv1⟩ : ∃ x, v0.drew = x := ⟨_, rfl⟩
  have HBv1 : Hid (Below v0.heap.size v0 v1) := Lib.hid (by rw [← hv1]; exact (Below.refl _ _).drew)
  rw [hv1]
  have hzv1 := HBv1.out.size
  have Hv1 := Lib.hid (Hv0.out.below HBv1.out)
  have HUv1 : Hid (Upd b 0 (0 + 12) (fun k => k = g ∨ k ∈ blkOf ah) w v1) := Lib.hid (HUv0.out.below HBv1.out Hv0.out.lt)
  have qn_0 := kC HBv1.out q_l q_0
  have qn_1 := kC HBv1.out q_l q_1
  have qn_2 := kC HBv1.out q_l q_2
  have qn_3 := kC HBv1.out q_l q_3
  have qn_4 := kC HBv1.out q_l q_4
  have qn_l := Nat.lt_of_lt_of_le q_l HBv1.out.size
  clear q_0 q_1 q_2 q_3 q_4 q_l
  have HA2n := Lib.hid (HA2.out.keep HBv1.out)
  clear k_f k_l k_0 k_1 k_2 k_3 k_4 k_5 k_6 k_7 k_8 k_9 k_10 k_11 hv1 hSc1
  have k_0 := Hv1.out.e0
  have k_1 := Hv1.out.e1
  have k_2 := Hv1.out.e2
  have k_3 := Hv1.out.e3
  have k_4 := Hv1.out.e4
  have k_5 := Hv1.out.e5
  have k_6 := Hv1.out.e6
  have k_7 := Hv1.out.e7
  have k_8 := Hv1.out.e8
  have k_9 := Hv1.out.e9
  have k_10 := Hv1.out.e10
  have k_11 := Hv1.out.e11
  have k_f := Hv1.out.fz
  have k_l := Hv1.out.lt
  have hwJ : IntKind.i64.wrap ((s.h : Int) - 1) = (s.h : Int) - 1 := IntWalk.i64_in _ ⟨by omega, by omega⟩
  have hwK : IntKind.i64.wrap ((n : Int) - 1) = (n : Int) - 1 := IntWalk.i64_in _ ⟨by omega, by omega⟩
  obtain ⟨n1, hN1⟩ : ∃ n, arg1 xs 1 = n := ⟨_, rfl⟩
  obtain ⟨A1, hA1⟩ : ∃ a, argA xs 1 1 = a := ⟨_, rfl⟩
  have hA1b : -1 ≤ A1 ∧ A1 ≤ 9999 := by rw [← hA1]; exact argA_bd HXR.out (by omega) (by omega)
  have hm1 : max 1 A1 = (n1 : Int) := by rw [← hN1, ← hA1]; unfold arg1; omega
  have hwL : IntKind.i64.wrap ((n1 : Int) - 1) = (n1 : Int) - 1 := IntWalk.i64_in _ ⟨by omega, by omega⟩
  have HN1 := Lib.hid hN1
  have HA1 := Lib.hid hA1
  clear hN1 hA1
  go_upto_region 17 with fail
  obtain ⟨v2, hv2⟩ : ∃ x, v1.setCell ⟨b, 3, none⟩ (.int .i64 (min ((s.h : Int) - 1) ((n : Int) - 1))) = x := ⟨_, rfl⟩
  have Hv2 : Hid (ScrAt lo b 0 ({ s with y := min s.h n - 1 } : Scr) g cc ah dh v2) := Lib.hid (by rw [← hv2]; exact Hv1.out.setv3 (min s.h n - 1) (by omega))
  have HUv2 : Hid (Upd b 0 (0 + 12) (fun k => k = g ∨ k ∈ blkOf ah) w v2) := Lib.hid (by rw [← hv2]; exact HUv1.out.set3 _)
  have HCv2 : Hid (Ch (· = b) v1 v2) := Lib.hid (by rw [← hv2]; exact Ch.set1' _ _ _ _)
  rw [hv2]
  have qnn_0 : v2.cell? ⟨w.heap.size, 0, none⟩ = some (.int .i64 kd) := (HCv2.out.cell (p := ⟨w.heap.size, 0, none⟩) qn_l q_b).trans qn_0
  have qnn_1 : v2.cell? ⟨w.heap.size, 1, none⟩ = some (.int .i64 102) := (HCv2.out.cell (p := ⟨w.heap.size, 1, none⟩) qn_l q_b).trans qn_1
  have qnn_2 : v2.cell? ⟨w.heap.size, 2, none⟩ = some (.bool false) := (HCv2.out.cell (p := ⟨w.heap.size, 2, none⟩) qn_l q_b).trans qn_2
  have qnn_3 : v2.cell? ⟨w.heap.size, 3, none⟩ = some (.slice aa ln ca) := (HCv2.out.cell (p := ⟨w.heap.size, 3, none⟩) qn_l q_b).trans qn_3
  have qnn_4 : v2.cell? ⟨w.heap.size, 4, none⟩ = some (.string tx) := (HCv2.out.cell (p := ⟨w.heap.size, 4, none⟩) qn_l q_b).trans qn_4
  have qnn_l := Nat.lt_of_lt_of_le qn_l HCv2.out.size
  clear qn_0 qn_1 qn_2 qn_3 qn_4 qn_l
  have HA2nn := Lib.hid (Sl.ch HA2n.out HCv2.out HA2_nb)
  clear hv2 k_f k_l k_0 k_1 k_2 k_3 k_4 k_5 k_6 k_7 k_8 k_9 k_10 k_11
  have k_0 := Hv2.out.e0
  have k_1 := Hv2.out.e1
  have k_2 := Hv2.out.e2
  have k_3 : v2.cell? ⟨b, 3, none⟩ = some (.int .i64 ((min s.h n - 1 : Nat) : Int)) := Hv2.out.c3
  have k_4 := Hv2.out.e4
  have k_5 := Hv2.out.e5
  have k_6 := Hv2.out.e6
  have k_7 := Hv2.out.e7
  have k_8 := Hv2.out.e8
  have k_9 := Hv2.out.e9
  have k_10 := Hv2.out.e10
  have k_11 := Hv2.out.e11
  have k_f := Hv2.out.fz
  have k_l := Hv2.out.lt
  have hSc2 := And.intro k_0 (And.intro qnn_0 (And.intro qnn_1 (And.intro qnn_2 (And.intro qnn_3 qnn_4))))
  refine wp_region_G (fun w' => w'.cell? ⟨b, 0, none⟩ = some (.int .i64 (s.w : Int)) ∧ w'.cell? ⟨w.heap.size, 0, none⟩ = some (.int .i64 kd) ∧ w'.cell? ⟨w.heap.size, 1, none⟩ = some (.int .i64 102) ∧ w'.cell? ⟨w.heap.size, 2, none⟩ = some (.bool false) ∧ w'.cell? ⟨w.heap.size, 3, none⟩ = some (.slice aa ln ca) ∧ w'.cell? ⟨w.heap.size, 4, none⟩ = some (.string tx)) (fun i => i == 13) (by kernel_rfl) hSc2 ?_
  refine tW ?_ 0 rfl ?_ ?_; rotate_left
  · intro w' hSw; go_simp; try rfl
  try simp only [Act.put,j1,j2,j3,j4,j5,j6]
  refine tW ?_ 1 rfl ?_ ?_; rotate_left
  · intro w' hSw; go_simp; try rfl
  try simp only [Act.put,j1,j2,j3,j4,j5,j6]
  refine tW ?_ 2 rfl ?_ ?_; rotate_left
  · intro w' hSw; go_simp; try rfl
  try simp only [Act.put,j1,j2,j3,j4,j5,j6]
  refine tW ?_ 3 rfl ?_ ?_; rotate_left
  · intro w' hSw; go_simp; try rfl
  try simp only [Act.put,j1,j2,j3,j4,j5,j6]
  refine tL ?_ 4 rfl hSc2 ?_ ?_; rotate_left
  · intro w' hSw; obtain ⟨s0, s1, s2, s3, s4, s5⟩ := hSw; go_simp; try rfl
  try simp only [Act.put,j1,j2,j3,j4,j5,j6]
  refine tW ?_ 5 rfl ?_ ?_; rotate_left
  · intro w' hSw; go_simp; try rfl
  try simp only [Act.put,j1,j2,j3,j4,j5,j6]
  refine tL ?_ 6 rfl hSc2 ?_ ?_; rotate_left
  · intro w' hSw; obtain ⟨s0, s1, s2, s3, s4, s5⟩ := hSw; go_simp; try rfl
  try simp only [Act.put,j1,j2,j3,j4,j5,j6]
  refine wpAnyG_one (i := 7) (by kernel_rfl) rfl hSc2 (fun K' hK => ?_)
  simp only [j1,j2,j3]
  go_simp
  refine (HCALL 1 1 _ (by omega) (HA2nn.out.keep ((Below.refl _ _).drew))).mono ?_
  rintro e x1 ⟨rfl, hb1⟩
  rw [HA1.out]
  have HB1 : Hid (Below v2.heap.size v2 x1) := Lib.hid (((Below.refl _ _).drew).trans hb1)
  have HX1 := Lib.hid (Hv2.out.below HB1.out)
  have e_0 := HX1.out.c0
  have e_2 := HX1.out.c2
  have e_f := HX1.out.fz
  have e_l := HX1.out.lt
  have hSx : x1.cell? ⟨b, 0, none⟩ = some (.int .i64 (s.w : Int)) ∧ x1.cell? ⟨w.heap.size, 0, none⟩ = some (.int .i64 kd) ∧ x1.cell? ⟨w.heap.size, 1, none⟩ = some (.int .i64 102) ∧ x1.cell? ⟨w.heap.size, 2, none⟩ = some (.bool false) ∧ x1.cell? ⟨w.heap.size, 3, none⟩ = some (.slice aa ln ca) ∧ x1.cell? ⟨w.heap.size, 4, none⟩ = some (.string tx) := ⟨HX1.out.c0, (HB1.out.cell (p := ⟨w.heap.size, 0, none⟩) qnn_l).trans qnn_0, (HB1.out.cell (p := ⟨w.heap.size, 1, none⟩) qnn_l).trans qnn_1, (HB1.out.cell (p := ⟨w.heap.size, 2, none⟩) qnn_l).trans qnn_2, (HB1.out.cell (p := ⟨w.heap.size, 3, none⟩) qnn_l).trans qnn_3, (HB1.out.cell (p := ⟨w.heap.size, 4, none⟩) qnn_l).trans qnn_4⟩
  clear hb1
  refine hK.out _ _ (Or.inr hSx) ?_
  clear hK K'
  try simp only [Act.put,j1,j2,j3,j4,j5,j6]
  refine tW ?_ 8 rfl ?_ ?_; rotate_left
  · intro w' hSw; go_simp; try rfl
  try simp only [Act.put,j1,j2,j3,j4,j5,j6]
  refine tW ?_ 9 rfl ?_ ?_; rotate_left
  · intro w' hSw; go_simp; try rfl
  try simp only [Act.put,j1,j2,j3,j4,j5,j6]
  refine tW ?_ 10 rfl ?_ ?_; rotate_left
  · intro w' hSw; go_simp; try rfl
  try simp only [Act.put,j1,j2,j3,j4,j5,j6]
  refine tW ?_ 11 rfl ?_ ?_; rotate_left
  · intro w' hSw; go_simp; try rfl
  try simp only [Act.put,j1,j2,j3,j4,j5,j6]
  refine tW ?_ 12 rfl ?_ ?_; rotate_left
  · intro w' hSw; go_simp; try rfl
  try simp only [Act.put,j1,j2,j3,j4,j5,j6]
  refine wpAnyG_one (i := 13) (by kernel_rfl) rfl hSx (fun K' hK => ?_)
  simp only [j1,j2,j3]
  go_simp
  refine hK.out _ _ (Or.inl rfl) ?_
  clear hK K'
  try simp only [Act.put,j1,j2,j3,j4,j5,j6]
  refine wpAnyG_done (by kernel_rfl) ?_ _
  go_wp2_with fail
  first | refine bodyPost_end (v := .tuple #[]) (by simp [results, Tryz.results82]) rfl ?_ | refine bodyPost_ret (v := .tuple #[]) (by simp [results, Tryz.results82]) rfl ?_
  refine ⟨rfl, ?_⟩
  unfold csiS
  rw [if_neg (by decide), if_neg (by decide), if_neg (by decide), if_neg (by decide), if_pos (by decide)]
  rw [HN.out, HN1.out]
  refine ScrR.mk (cc := cc) (dh := dh) ?_ ?_
  · repeat (with_reducible refine ScrAt.drew ?_)
    exact HX1.out.setv2 _ (by omega)
  · repeat (with_reducible refine Upd.drew ?_)
    exact (HUv2.out.below HB1.out Hv2.out.lt).set2 _
end
section
open Go.RowKit
theorem csi74_c (lo b : Nat) (s : Scr) (g cc : Nat) (ah : Option Addr) (dh : Nat) (w : World) (kd : Int) (xs : List Int) (aa : Option Addr) (ca : Nat) (tx : ByteArray) (h : ScrAt lo b 0 s g cc ah dh w) (ok : ScrOK s) (hlo : lo ≤ w.heap.size) (ha : Sl intE 1 w aa xs) (hna : ∀ k ∈ blkOf aa, k ≠ b ∧ k ≠ g ∧ k ∉ blkOf ah) (hx8 : xs.length ≤ 8) (hxr : ∀ x ∈ xs, -1 ≤ x ∧ x ≤ 9999) :
    Calls Tryz.prog 82 #[.pointer (some ⟨b, 0, none⟩), .agg #[.int .i64 kd, .int .i64 74, .bool false, .slice aa xs.length ca, .string tx]] w fun e w' => e = .returned (.tuple #[]) ∧ ScrR lo b 0 (csiS s 74 xs) g ah w w' := by
  have HS := Lib.hid h
  have HOK := Lib.hid ok
  have HA := Lib.hid ha
  have HNA := Lib.hid hna
  have HXR := Lib.hid hxr
  have HX8 := Lib.hid hx8
  have hw1 := ok.w1
  have hw2 := ok.w2
  have hh1 := ok.h1
  have hh2 := ok.h2
  have hx := ok.hx
  have hy := ok.hy
  have hcur := ok.cur
  have hcn := ok.cn
  have hlt := h.lt
  obtain ⟨n, hn⟩ : ∃ n, arg1 xs 0 = n := ⟨_, rfl⟩
  obtain ⟨A0, hA0⟩ : ∃ a, argA xs 0 1 = a := ⟨_, rfl⟩
  have hAb : -1 ≤ A0 ∧ A0 ≤ 9999 := by rw [← hA0]; exact argA_bd HXR.out (by omega) (by omega)
  have hm : max 1 A0 = (n : Int) := by rw [← hn, ← hA0]; unfold arg1; omega
  have hn1 : 1 ≤ n := by omega
  have hn2 : n ≤ 9999 := by omega
  have HN := Lib.hid hn
  have HA0 := Lib.hid hA0
  obtain ⟨p, hp⟩ : ∃ p, s.y * s.w = p := ⟨_, rfl⟩
  obtain ⟨mx, hmx⟩ : ∃ m, min s.x (s.w - 1) = m := ⟨_, rfl⟩
  obtain ⟨cr, hcr⟩ : ∃ c, curS s = c := ⟨_, rfl⟩
  obtain ⟨pn, hpn⟩ : ∃ q, (s.y + 1) * s.w = q := ⟨_, rfl⟩
  obtain ⟨nn, hnn⟩ : ∃ q, s.w * s.h = q := ⟨_, rfl⟩
  have hpi : (s.y : Int) * (s.w : Int) = (p : Int) := by rw [← hp]; exact (Int.natCast_mul _ _).symm
  have hpni : ((s.y : Int) + 1) * (s.w : Int) = (pn : Int) := by rw [← hpn]; exact (Int.natCast_mul (s.y + 1) s.w).symm
  have hnni : (s.w : Int) * (s.h : Int) = (nn : Int) := by rw [← hnn]; exact (Int.natCast_mul _ _).symm
  have hmi : min (s.x : Int) ((s.w : Int) - 1) = (mx : Int) := by omega
  have hcri : (p : Int) + (mx : Int) = (cr : Int) := by rw [← hcr, ← hp, ← hmx]; unfold curS; omega
  have hn240 : nn ≤ 240 := by rw [← hnn]; exact Nat.mul_le_mul hw2 hh2
  rw [hcr, hp, hpn, hnn] at hcur
  rw [hnn] at hcn
  obtain ⟨hc1, hc2, hc3⟩ := hcur
  have HCN := Lib.hid hcn
  have HP := Lib.hid hp
  have HMX := Lib.hid hmx
  have HCR := Lib.hid hcr
  have HPN := Lib.hid hpn
  have HNN := Lib.hid hnn
  have hwA : IntKind.i64.wrap ((s.w : Int) - 1) = (s.w : Int) - 1 := IntWalk.i64_in _ ⟨by omega, by omega⟩
  have hwB : IntKind.i64.wrap (p : Int) = (p : Int) := IntWalk.i64_in _ ⟨by omega, by omega⟩
  have hwC : IntKind.i64.wrap (cr : Int) = (cr : Int) := IntWalk.i64_in _ ⟨by omega, by omega⟩
  have hwD : IntKind.i64.wrap (pn : Int) = (pn : Int) := IntWalk.i64_in _ ⟨by omega, by omega⟩
  have hwE : IntKind.i64.wrap (nn : Int) = (nn : Int) := IntWalk.i64_in _ ⟨by omega, by omega⟩
  have hwF : IntKind.i64.wrap ((s.y : Int) + 1) = (s.y : Int) + 1 := IntWalk.i64_in _ ⟨by omega, by omega⟩
  have hwG : IntKind.i64.wrap ((cr : Int) + 1) = (cr : Int) + 1 := IntWalk.i64_in _ ⟨by omega, by omega⟩
  obtain ⟨ln, hln⟩ : ∃ l, xs.length = l := ⟨_, rfl⟩
  have HLN := Lib.hid hln
  have HCALL : ∀ (i : Nat) (d : Int) (W : World), i ≤ 7 → Sl intE 1 W aa xs → Calls Tryz.prog 117 #[.agg #[.int .i64 kd, .int .i64 74, .bool false, .slice aa ln ca, .string tx], .int .i64 i, .int .i64 d] W fun e w' => e = .returned (.int .i64 (argA xs i d)) ∧ Below W.heap.size W w' := fun i d W hi hW => by
    rw [← hln]
    exact l03ArgG_c kd 74 false tx xs aa ca i d W hW hi hx8
  rw [hln]
  clear h ok ha hna hxr hx8 hn hA0 hp hmx hcr hpn hnn hcn hln
  go_enter Tryz.func82, Tryz.ntmps82
  go_wp2_with fail
  refine (HCALL 0 1 _ (by omega) (HA.out.alloc _)).mono ?_
  rintro e v0 ⟨rfl, hb0⟩
  rw [HA0.out]
  have HB0 : Hid (Below w.heap.size w v0) := Lib.hid (((Below.refl w.heap.size w).alloc (Nat.le_refl _) _).trans (hb0.mono (by simp)))
  have hz0 := HB0.out.size
  have q_l : w.heap.size < v0.heap.size := by have := hb0.size; simp at this; omega
  have q_0 : v0.cell? ⟨w.heap.size, 0, none⟩ = some (.int .i64 kd) := kC hb0 (by simp) (by simp [go_sem])
  have q_1 : v0.cell? ⟨w.heap.size, 1, none⟩ = some (.int .i64 74) := kC hb0 (by simp) (by simp [go_sem])
  have q_2 : v0.cell? ⟨w.heap.size, 2, none⟩ = some (.bool false) := kC hb0 (by simp) (by simp [go_sem])
  have q_3 : v0.cell? ⟨w.heap.size, 3, none⟩ = some (.slice aa ln ca) := kC hb0 (by simp) (by simp [go_sem])
  have q_4 : v0.cell? ⟨w.heap.size, 4, none⟩ = some (.string tx) := kC hb0 (by simp) (by simp [go_sem])
  clear hb0
  have q_b : ¬ w.heap.size = b := by omega
  have HA_nb : ∀ k ∈ blkOf aa, ¬ k = b := fun k hk => (HNA.out k hk).1
  have Hv0 := Lib.hid (HS.out.below HB0.out)
  have HA2 := Lib.hid (HA.out.keep HB0.out)
  have HUv0 : Hid (Upd b 0 (0 + 12) (fun k => k = g ∨ k ∈ blkOf ah) w v0) := Lib.hid (Upd.refl'.below HB0.out HS.out.lt)
  have HA2_nb := HA_nb
  have k_0 := Hv0.out.e0
  have k_1 := Hv0.out.e1
  have k_2 := Hv0.out.e2
  have k_3 := Hv0.out.e3
  have k_4 := Hv0.out.e4
  have k_5 := Hv0.out.e5
  have k_6 := Hv0.out.e6
  have k_7 := Hv0.out.e7
  have k_8 := Hv0.out.e8
  have k_9 := Hv0.out.e9
  have k_10 := Hv0.out.e10
  have k_11 := Hv0.out.e11
  have k_f := Hv0.out.fz
  have k_l := Hv0.out.lt
  go_upto_region 4 with fail
  have hSc1 := And.intro k_0 (And.intro k_2 k_3)
  refine wp_region_G (fun w' => w'.cell? ⟨b, 0, none⟩ = some (.int .i64 (s.w : Int)) ∧ w'.cell? ⟨b, 2, none⟩ = some (.int .i64 (s.x : Int)) ∧ w'.cell? ⟨b, 3, none⟩ = some (.int .i64 (s.y : Int))) (fun i => false) (by kernel_rfl) hSc1 ?_
  refine tW ?_ 0 rfl ?_ ?_; rotate_left
  · intro w' hSw; go_simp; try rfl
  try simp only [Act.put,j1,j2,j3,j4,j5,j6]
  refine tW ?_ 1 rfl ?_ ?_; rotate_left
  · intro w' hSw; go_simp; try rfl
  try simp only [Act.put,j1,j2,j3,j4,j5,j6]
  refine tW ?_ 2 rfl ?_ ?_; rotate_left
  · intro w' hSw; go_simp; try rfl
  try simp only [Act.put,j1,j2,j3,j4,j5,j6]
  refine tL ?_ 3 rfl hSc1 ?_ ?_; rotate_left
  · intro w' hSw; obtain ⟨s0, s1, s2⟩ := hSw; go_simp; try rfl
  try simp only [Act.put,j1,j2,j3,j4,j5,j6]
  refine tW ?_ 4 rfl ?_ ?_; rotate_left
  · intro w' hSw; go_simp; try rfl
  try simp only [Act.put,j1,j2,j3,j4,j5,j6]
  refine tW ?_ 5 rfl ?_ ?_; rotate_left
  · intro w' hSw; go_simp; try rfl
  try simp only [Act.put,j1,j2,j3,j4,j5,j6]
  refine tW ?_ 6 rfl ?_ ?_; rotate_left
  · intro w' hSw; go_simp; try rfl
  try simp only [Act.put,j1,j2,j3,j4,j5,j6]
  refine tL ?_ 7 rfl hSc1 ?_ ?_; rotate_left
  · intro w' hSw; obtain ⟨s0, s1, s2⟩ := hSw; go_simp; try rfl
  try simp only [Act.put,j1,j2,j3,j4,j5,j6]
  refine tW ?_ 8 rfl ?_ ?_; rotate_left
  · intro w' hSw; go_simp; try rfl
  try simp only [Act.put,j1,j2,j3,j4,j5,j6]
  refine tW ?_ 9 rfl ?_ ?_; rotate_left
  · intro w' hSw; go_simp; try rfl
  try simp only [Act.put,j1,j2,j3,j4,j5,j6]
  refine tW ?_ 10 rfl ?_ ?_; rotate_left
  · intro w' hSw; go_simp; try rfl
  try simp only [Act.put,j1,j2,j3,j4,j5,j6]
  refine tW ?_ 11 rfl ?_ ?_; rotate_left
  · intro w' hSw; go_simp; try rfl
  try simp only [Act.put,j1,j2,j3,j4,j5,j6]
  refine tL ?_ 12 rfl hSc1 ?_ ?_; rotate_left
  · intro w' hSw; obtain ⟨s0, s1, s2⟩ := hSw; go_simp; try rfl
  try simp only [Act.put,j1,j2,j3,j4,j5,j6]
  refine tW ?_ 13 rfl ?_ ?_; rotate_left
  · intro w' hSw; go_simp; try rfl
  try simp only [Act.put,j1,j2,j3,j4,j5,j6]
  refine tW ?_ 14 rfl ?_ ?_; rotate_left
  · intro w' hSw; go_simp; try rfl
  try simp only [Act.put,j1,j2,j3,j4,j5,j6]
  refine tW ?_ 15 rfl ?_ ?_; rotate_left
  · intro w' hSw; go_simp; try rfl
  try simp only [Act.put,j1,j2,j3,j4,j5,j6]
  refine tL ?_ 16 rfl hSc1 ?_ ?_; rotate_left
  · intro w' hSw; obtain ⟨s0, s1, s2⟩ := hSw; go_simp; try rfl
  try simp only [Act.put,j1,j2,j3,j4,j5,j6]
  refine tW ?_ 17 rfl ?_ ?_; rotate_left
  · intro w' hSw; go_simp; try rfl
  try simp only [Act.put,j1,j2,j3,j4,j5,j6]
  refine tW ?_ 18 rfl ?_ ?_; rotate_left
  · intro w' hSw; go_simp; try rfl
  try simp only [Act.put,j1,j2,j3,j4,j5,j6]
  refine tW ?_ 19 rfl ?_ ?_; rotate_left
  · intro w' hSw; go_simp; try rfl
  try simp only [Act.put,j1,j2,j3,j4,j5,j6]
  refine tW ?_ 20 rfl ?_ ?_; rotate_left
  · intro w' hSw; go_simp; try rfl
  try simp only [Act.put,j1,j2,j3,j4,j5,j6]
  refine wpAnyG_done (by kernel_rfl) ?_ _
  obtain ⟨v1, hv1⟩ : ∃ x, v0.drew = x := ⟨_, rfl⟩
  have HBv1 : Hid (Below v0.heap.size v0 v1) := Lib.hid (by rw [← hv1]; exact (Below.refl _ _).drew)
  rw [hv1]
  have hzv1 := HBv1.out.size
  have Hv1 := Lib.hid (Hv0.out.below HBv1.out)
  have HUv1 : Hid (Upd b 0 (0 + 12) (fun k => k = g ∨ k ∈ blkOf ah) w v1) := Lib.hid (HUv0.out.below HBv1.out Hv0.out.lt)
  have qn_0 := kC HBv1.out q_l q_0
  have qn_1 := kC HBv1.out q_l q_1
  have qn_2 := kC HBv1.out q_l q_2
  have qn_3 := kC HBv1.out q_l q_3
  have qn_4 := kC HBv1.out q_l q_4
  have qn_l := Nat.lt_of_lt_of_le q_l HBv1.out.size
  clear q_0 q_1 q_2 q_3 q_4 q_l
  have HA2n := Lib.hid (HA2.out.keep HBv1.out)
  clear k_f k_l k_0 k_1 k_2 k_3 k_4 k_5 k_6 k_7 k_8 k_9 k_10 k_11 hv1 hSc1
  have k_0 := Hv1.out.e0
  have k_1 := Hv1.out.e1
  have k_2 := Hv1.out.e2
  have k_3 := Hv1.out.e3
  have k_4 := Hv1.out.e4
  have k_5 := Hv1.out.e5
  have k_6 := Hv1.out.e6
  have k_7 := Hv1.out.e7
  have k_8 := Hv1.out.e8
  have k_9 := Hv1.out.e9
  have k_10 := Hv1.out.e10
  have k_11 := Hv1.out.e11
  have k_f := Hv1.out.fz
  have k_l := Hv1.out.lt
  obtain ⟨D, hD⟩ : ∃ a, argA xs 0 0 = a := ⟨_, rfl⟩
  have HD := Lib.hid hD
  clear hD
  go_wp2_with fail
  refine (HCALL 0 0 _ (by omega) HA2n.out).mono ?_
  rw [HD.out]
  rintro e v2 ⟨rfl, hbv2⟩
  have HBv2 := Lib.hid hbv2
  have hzv2 := HBv2.out.size
  have Hv2 := Lib.hid (Hv1.out.below HBv2.out)
  have HUv2 : Hid (Upd b 0 (0 + 12) (fun k => k = g ∨ k ∈ blkOf ah) w v2) := Lib.hid (HUv1.out.below HBv2.out Hv1.out.lt)
  have qnn_0 := kC HBv2.out qn_l qn_0
  have qnn_1 := kC HBv2.out qn_l qn_1
  have qnn_2 := kC HBv2.out qn_l qn_2
  have qnn_3 := kC HBv2.out qn_l qn_3
  have qnn_4 := kC HBv2.out qn_l qn_4
  have qnn_l := Nat.lt_of_lt_of_le qn_l HBv2.out.size
  clear qn_0 qn_1 qn_2 qn_3 qn_4 qn_l
  have HA2nn := Lib.hid (HA2n.out.keep HBv2.out)
  clear k_f k_l k_0 k_1 k_2 k_3 k_4 k_5 k_6 k_7 k_8 k_9 k_10 k_11 hbv2
  have k_0 := Hv2.out.e0
  have k_1 := Hv2.out.e1
  have k_2 := Hv2.out.e2
  have k_3 := Hv2.out.e3
  have k_4 := Hv2.out.e4
  have k_5 := Hv2.out.e5
  have k_6 := Hv2.out.e6
  have k_7 := Hv2.out.e7
  have k_8 := Hv2.out.e8
  have k_9 := Hv2.out.e9
  have k_10 := Hv2.out.e10
  have k_11 := Hv2.out.e11
  have k_f := Hv2.out.fz
  have k_l := Hv2.out.lt
  by_cases hd0 : D = 0
  · subst hd0
    go_upto_region 21 with fail
    have hSc2 := And.intro k_0 k_1
    refine wp_region_G (fun w' => w'.cell? ⟨b, 0, none⟩ = some (.int .i64 (s.w : Int)) ∧ w'.cell? ⟨b, 1, none⟩ = some (.int .i64 (s.h : Int))) (fun i => false) (by kernel_rfl) hSc2 ?_
    refine tW ?_ 0 rfl ?_ ?_; rotate_left
    · intro w' hSw; go_simp; try rfl
    try simp only [Act.put,j1,j2,j3,j4,j5,j6]
    refine tW ?_ 1 rfl ?_ ?_; rotate_left
    · intro w' hSw; go_simp; try rfl
    try simp only [Act.put,j1,j2,j3,j4,j5,j6]
    refine tW ?_ 2 rfl ?_ ?_; rotate_left
    · intro w' hSw; go_simp; try rfl
    try simp only [Act.put,j1,j2,j3,j4,j5,j6]
    refine tW ?_ 3 rfl ?_ ?_; rotate_left
    · intro w' hSw; go_simp; try rfl
    try simp only [Act.put,j1,j2,j3,j4,j5,j6]
    refine tW ?_ 4 rfl ?_ ?_; rotate_left
    · intro w' hSw; go_simp; try rfl
    try simp only [Act.put,j1,j2,j3,j4,j5,j6]
    refine tL ?_ 5 rfl hSc2 ?_ ?_; rotate_left
    · intro w' hSw; obtain ⟨s0, s1⟩ := hSw; go_simp; try rfl
    try simp only [Act.put,j1,j2,j3,j4,j5,j6]
    refine tW ?_ 6 rfl ?_ ?_; rotate_left
    · intro w' hSw; go_simp; try rfl
    try simp only [Act.put,j1,j2,j3,j4,j5,j6]
    refine tW ?_ 7 rfl ?_ ?_; rotate_left
    · intro w' hSw; go_simp; try rfl
    try simp only [Act.put,j1,j2,j3,j4,j5,j6]
    refine tW ?_ 8 rfl ?_ ?_; rotate_left
    · intro w' hSw; go_simp; try rfl
    try simp only [Act.put,j1,j2,j3,j4,j5,j6]
    refine tL ?_ 9 rfl hSc2 ?_ ?_; rotate_left
    · intro w' hSw; obtain ⟨s0, s1⟩ := hSw; go_simp; try rfl
    try simp only [Act.put,j1,j2,j3,j4,j5,j6]
    refine tW ?_ 10 rfl ?_ ?_; rotate_left
    · intro w' hSw; go_simp; try rfl
    try simp only [Act.put,j1,j2,j3,j4,j5,j6]
    refine wpAnyG_one (i := 11) (by kernel_rfl) rfl hSc2 (fun K' hK => ?_)
    simp only [j1,j2,j3]
    go_simp
    refine (clear_c lo b s g cc ah dh _ cr nn Hv2.out.drew (by omega) (by rw [HCN.out]; omega) (by rw [HCN.out]; exact hn240)).mono ?_
    rintro e x1 ⟨rfl, hax, hcx⟩
    have HR : Hid (ScrR lo b 0 (clr cr nn s) g ah w x1) := Lib.hid (.mk hax (HUv2.out.drew.transN (Upd.ofCh (S := fun i => i = g) hcx Hv2.out.lt (fun e => HS.out.gb e.symm) (fun i hi => .inl hi)) (fun i hi => .inl (.inl hi))))
    have hSx : x1.cell? ⟨b, 0, none⟩ = some (.int .i64 (s.w : Int)) ∧ x1.cell? ⟨b, 1, none⟩ = some (.int .i64 (s.h : Int)) := ⟨hax.c0, hax.c1⟩
    clear hax hcx
    refine hK.out _ _ (Or.inr hSx) ?_
    clear hK K'
    try simp only [Act.put,j1,j2,j3,j4,j5,j6]
    refine wpAnyG_done (by kernel_rfl) ?_ _
    go_wp2_with fail
    first | refine bodyPost_end (v := .tuple #[]) (by simp [results, Tryz.results82]) rfl ?_ | refine bodyPost_ret (v := .tuple #[]) (by simp [results, Tryz.results82]) rfl ?_
    refine ⟨rfl, ?_⟩
    unfold csiS
    rw [if_neg (by decide), if_neg (by decide), if_neg (by decide), if_neg (by decide), if_neg (by decide), if_pos (by decide)]
    have e1 : eraS s 0 0 0 = eraS s 0 0 0 := rfl
    rw [HD.out, HNN.out]
    unfold eraS
    rw [if_pos rfl]
    rw [HCR.out]
    exact HR.out
  by_cases hd1 : D = 1
  · subst hd1
    go_wp2_with fail
    refine (clear_c lo b s g cc ah dh _ 0 (cr + 1) Hv2.out (by omega) (by rw [HCN.out]; omega) (by rw [HCN.out]; exact hn240)).mono ?_
    rintro e x1 ⟨rfl, hax, hcx⟩
    have HR : Hid (ScrR lo b 0 (clr 0 (cr + 1) s) g ah w x1) := Lib.hid (.mk hax (HUv2.out.transN (Upd.ofCh (S := fun i => i = g) hcx Hv2.out.lt (fun e => HS.out.gb e.symm) (fun i hi => .inl hi)) (fun i hi => .inl (.inl hi))))
    clear hax hcx
    go_wp2_with fail
    first | refine bodyPost_end (v := .tuple #[]) (by simp [results, Tryz.results82]) rfl ?_ | refine bodyPost_ret (v := .tuple #[]) (by simp [results, Tryz.results82]) rfl ?_
    refine ⟨rfl, ?_⟩
    unfold csiS
    rw [if_neg (by decide), if_neg (by decide), if_neg (by decide), if_neg (by decide), if_neg (by decide), if_pos (by decide)]
    have e1 : eraS s 0 0 0 = eraS s 0 0 0 := rfl
    rw [HD.out, HNN.out]
    unfold eraS
    rw [if_neg (by decide), if_pos rfl]
    rw [HCR.out]
    exact HR.out
  by_cases hd2 : D = 2
  · subst hd2
    go_upto_region 25 with fail
    have hSc2 := And.intro k_0 k_1
    refine wp_region_G (fun w' => w'.cell? ⟨b, 0, none⟩ = some (.int .i64 (s.w : Int)) ∧ w'.cell? ⟨b, 1, none⟩ = some (.int .i64 (s.h : Int))) (fun i => false) (by kernel_rfl) hSc2 ?_
    refine tW ?_ 0 rfl ?_ ?_; rotate_left
    · intro w' hSw; go_simp; try rfl
    try simp only [Act.put,j1,j2,j3,j4,j5,j6]
    refine tW ?_ 1 rfl ?_ ?_; rotate_left
    · intro w' hSw; go_simp; try rfl
    try simp only [Act.put,j1,j2,j3,j4,j5,j6]
    refine tW ?_ 2 rfl ?_ ?_; rotate_left
    · intro w' hSw; go_simp; try rfl
    try simp only [Act.put,j1,j2,j3,j4,j5,j6]
    refine tW ?_ 3 rfl ?_ ?_; rotate_left
    · intro w' hSw; go_simp; try rfl
    try simp only [Act.put,j1,j2,j3,j4,j5,j6]
    refine tL ?_ 4 rfl hSc2 ?_ ?_; rotate_left
    · intro w' hSw; obtain ⟨s0, s1⟩ := hSw; go_simp; try rfl
    try simp only [Act.put,j1,j2,j3,j4,j5,j6]
    refine tW ?_ 5 rfl ?_ ?_; rotate_left
    · intro w' hSw; go_simp; try rfl
    try simp only [Act.put,j1,j2,j3,j4,j5,j6]
    refine tW ?_ 6 rfl ?_ ?_; rotate_left
    · intro w' hSw; go_simp; try rfl
    try simp only [Act.put,j1,j2,j3,j4,j5,j6]
    refine tW ?_ 7 rfl ?_ ?_; rotate_left
    · intro w' hSw; go_simp; try rfl
    try simp only [Act.put,j1,j2,j3,j4,j5,j6]
    refine tL ?_ 8 rfl hSc2 ?_ ?_; rotate_left
    · intro w' hSw; obtain ⟨s0, s1⟩ := hSw; go_simp; try rfl
    try simp only [Act.put,j1,j2,j3,j4,j5,j6]
    refine tW ?_ 9 rfl ?_ ?_; rotate_left
    · intro w' hSw; go_simp; try rfl
    try simp only [Act.put,j1,j2,j3,j4,j5,j6]
    refine wpAnyG_one (i := 10) (by kernel_rfl) rfl hSc2 (fun K' hK => ?_)
    simp only [j1,j2,j3]
    go_simp
    refine (clear_c lo b s g cc ah dh _ 0 nn Hv2.out.drew (by omega) (by rw [HCN.out]; omega) (by rw [HCN.out]; exact hn240)).mono ?_
    rintro e x1 ⟨rfl, hax, hcx⟩
    have HR : Hid (ScrR lo b 0 (clr 0 nn s) g ah w x1) := Lib.hid (.mk hax (HUv2.out.drew.transN (Upd.ofCh (S := fun i => i = g) hcx Hv2.out.lt (fun e => HS.out.gb e.symm) (fun i hi => .inl hi)) (fun i hi => .inl (.inl hi))))
    have hSx : x1.cell? ⟨b, 0, none⟩ = some (.int .i64 (s.w : Int)) ∧ x1.cell? ⟨b, 1, none⟩ = some (.int .i64 (s.h : Int)) := ⟨hax.c0, hax.c1⟩
    clear hax hcx
    refine hK.out _ _ (Or.inr hSx) ?_
    clear hK K'
    try simp only [Act.put,j1,j2,j3,j4,j5,j6]
    refine wpAnyG_done (by kernel_rfl) ?_ _
    go_wp2_with fail
    first | refine bodyPost_end (v := .tuple #[]) (by simp [results, Tryz.results82]) rfl ?_ | refine bodyPost_ret (v := .tuple #[]) (by simp [results, Tryz.results82]) rfl ?_
    refine ⟨rfl, ?_⟩
    unfold csiS
    rw [if_neg (by decide), if_neg (by decide), if_neg (by decide), if_neg (by decide), if_neg (by decide), if_pos (by decide)]
    have e1 : eraS s 0 0 0 = eraS s 0 0 0 := rfl
    rw [HD.out, HNN.out]
    unfold eraS
    rw [if_neg (by decide), if_neg (by decide), if_pos rfl]
    exact HR.out
  have r0 : (D == 0) = false := beq_eq_false_iff_ne.2 hd0
  have r1 : (D == 1) = false := beq_eq_false_iff_ne.2 hd1
  have r2 : (D == 2) = false := beq_eq_false_iff_ne.2 hd2
  go_wp2_with fail
  first | refine bodyPost_end (v := .tuple #[]) (by simp [results, Tryz.results82]) rfl ?_ | refine bodyPost_ret (v := .tuple #[]) (by simp [results, Tryz.results82]) rfl ?_
  refine ⟨rfl, ?_⟩
  unfold csiS
  rw [if_neg (by decide), if_neg (by decide), if_neg (by decide), if_neg (by decide), if_neg (by decide), if_pos (by decide)]
  rw [HD.out]
  unfold eraS
  rw [if_neg hd0, if_neg hd1, if_neg hd2]
  exact .mk Hv2.out HUv2.out
theorem csi75_c (lo b : Nat) (s : Scr) (g cc : Nat) (ah : Option Addr) (dh : Nat) (w : World) (kd : Int) (xs : List Int) (aa : Option Addr) (ca : Nat) (tx : ByteArray) (h : ScrAt lo b 0 s g cc ah dh w) (ok : ScrOK s) (hlo : lo ≤ w.heap.size) (ha : Sl intE 1 w aa xs) (hna : ∀ k ∈ blkOf aa, k ≠ b ∧ k ≠ g ∧ k ∉ blkOf ah) (hx8 : xs.length ≤ 8) (hxr : ∀ x ∈ xs, -1 ≤ x ∧ x ≤ 9999) :
    Calls Tryz.prog 82 #[.pointer (some ⟨b, 0, none⟩), .agg #[.int .i64 kd, .int .i64 75, .bool false, .slice aa xs.length ca, .string tx]] w fun e w' => e = .returned (.tuple #[]) ∧ ScrR lo b 0 (csiS s 75 xs) g ah w w' := by
  have HS := Lib.hid h
  have HOK := Lib.hid ok
  have HA := Lib.hid ha
  have HNA := Lib.hid hna
  have HXR := Lib.hid hxr
  have HX8 := Lib.hid hx8
  have hw1 := ok.w1
  have hw2 := ok.w2
  have hh1 := ok.h1
  have hh2 := ok.h2
  have hx := ok.hx
  have hy := ok.hy
  have hcur := ok.cur
  have hcn := ok.cn
  have hlt := h.lt
  obtain ⟨n, hn⟩ : ∃ n, arg1 xs 0 = n := ⟨_, rfl⟩
  obtain ⟨A0, hA0⟩ : ∃ a, argA xs 0 1 = a := ⟨_, rfl⟩
  have hAb : -1 ≤ A0 ∧ A0 ≤ 9999 := by rw [← hA0]; exact argA_bd HXR.out (by omega) (by omega)
  have hm : max 1 A0 = (n : Int) := by rw [← hn, ← hA0]; unfold arg1; omega
  have hn1 : 1 ≤ n := by omega
  have hn2 : n ≤ 9999 := by omega
  have HN := Lib.hid hn
  have HA0 := Lib.hid hA0
  obtain ⟨p, hp⟩ : ∃ p, s.y * s.w = p := ⟨_, rfl⟩
  obtain ⟨mx, hmx⟩ : ∃ m, min s.x (s.w - 1) = m := ⟨_, rfl⟩
  obtain ⟨cr, hcr⟩ : ∃ c, curS s = c := ⟨_, rfl⟩
  obtain ⟨pn, hpn⟩ : ∃ q, (s.y + 1) * s.w = q := ⟨_, rfl⟩
  obtain ⟨nn, hnn⟩ : ∃ q, s.w * s.h = q := ⟨_, rfl⟩
  have hpi : (s.y : Int) * (s.w : Int) = (p : Int) := by rw [← hp]; exact (Int.natCast_mul _ _).symm
  have hpni : ((s.y : Int) + 1) * (s.w : Int) = (pn : Int) := by rw [← hpn]; exact (Int.natCast_mul (s.y + 1) s.w).symm
  have hnni : (s.w : Int) * (s.h : Int) = (nn : Int) := by rw [← hnn]; exact (Int.natCast_mul _ _).symm
  have hmi : min (s.x : Int) ((s.w : Int) - 1) = (mx : Int) := by omega
  have hcri : (p : Int) + (mx : Int) = (cr : Int) := by rw [← hcr, ← hp, ← hmx]; unfold curS; omega
  have hn240 : nn ≤ 240 := by rw [← hnn]; exact Nat.mul_le_mul hw2 hh2
  rw [hcr, hp, hpn, hnn] at hcur
  rw [hnn] at hcn
  obtain ⟨hc1, hc2, hc3⟩ := hcur
  have HCN := Lib.hid hcn
  have HP := Lib.hid hp
  have HMX := Lib.hid hmx
  have HCR := Lib.hid hcr
  have HPN := Lib.hid hpn
  have HNN := Lib.hid hnn
  have hwA : IntKind.i64.wrap ((s.w : Int) - 1) = (s.w : Int) - 1 := IntWalk.i64_in _ ⟨by omega, by omega⟩
  have hwB : IntKind.i64.wrap (p : Int) = (p : Int) := IntWalk.i64_in _ ⟨by omega, by omega⟩
  have hwC : IntKind.i64.wrap (cr : Int) = (cr : Int) := IntWalk.i64_in _ ⟨by omega, by omega⟩
  have hwD : IntKind.i64.wrap (pn : Int) = (pn : Int) := IntWalk.i64_in _ ⟨by omega, by omega⟩
  have hwE : IntKind.i64.wrap (nn : Int) = (nn : Int) := IntWalk.i64_in _ ⟨by omega, by omega⟩
  have hwF : IntKind.i64.wrap ((s.y : Int) + 1) = (s.y : Int) + 1 := IntWalk.i64_in _ ⟨by omega, by omega⟩
  have hwG : IntKind.i64.wrap ((cr : Int) + 1) = (cr : Int) + 1 := IntWalk.i64_in _ ⟨by omega, by omega⟩
  obtain ⟨ln, hln⟩ : ∃ l, xs.length = l := ⟨_, rfl⟩
  have HLN := Lib.hid hln
  have HCALL : ∀ (i : Nat) (d : Int) (W : World), i ≤ 7 → Sl intE 1 W aa xs → Calls Tryz.prog 117 #[.agg #[.int .i64 kd, .int .i64 75, .bool false, .slice aa ln ca, .string tx], .int .i64 i, .int .i64 d] W fun e w' => e = .returned (.int .i64 (argA xs i d)) ∧ Below W.heap.size W w' := fun i d W hi hW => by
    rw [← hln]
    exact l03ArgG_c kd 75 false tx xs aa ca i d W hW hi hx8
  rw [hln]
  clear h ok ha hna hxr hx8 hn hA0 hp hmx hcr hpn hnn hcn hln
  go_enter Tryz.func82, Tryz.ntmps82
  go_wp2_with fail
  refine (HCALL 0 1 _ (by omega) (HA.out.alloc _)).mono ?_
  rintro e v0 ⟨rfl, hb0⟩
  rw [HA0.out]
  have HB0 : Hid (Below w.heap.size w v0) := Lib.hid (((Below.refl w.heap.size w).alloc (Nat.le_refl _) _).trans (hb0.mono (by simp)))
  have hz0 := HB0.out.size
  have q_l : w.heap.size < v0.heap.size := by have := hb0.size; simp at this; omega
  have q_0 : v0.cell? ⟨w.heap.size, 0, none⟩ = some (.int .i64 kd) := kC hb0 (by simp) (by simp [go_sem])
  have q_1 : v0.cell? ⟨w.heap.size, 1, none⟩ = some (.int .i64 75) := kC hb0 (by simp) (by simp [go_sem])
  have q_2 : v0.cell? ⟨w.heap.size, 2, none⟩ = some (.bool false) := kC hb0 (by simp) (by simp [go_sem])
  have q_3 : v0.cell? ⟨w.heap.size, 3, none⟩ = some (.slice aa ln ca) := kC hb0 (by simp) (by simp [go_sem])
  have q_4 : v0.cell? ⟨w.heap.size, 4, none⟩ = some (.string tx) := kC hb0 (by simp) (by simp [go_sem])
  clear hb0
  have q_b : ¬ w.heap.size = b := by omega
  have HA_nb : ∀ k ∈ blkOf aa, ¬ k = b := fun k hk => (HNA.out k hk).1
  have Hv0 := Lib.hid (HS.out.below HB0.out)
  have HA2 := Lib.hid (HA.out.keep HB0.out)
  have HUv0 : Hid (Upd b 0 (0 + 12) (fun k => k = g ∨ k ∈ blkOf ah) w v0) := Lib.hid (Upd.refl'.below HB0.out HS.out.lt)
  have HA2_nb := HA_nb
  have k_0 := Hv0.out.e0
  have k_1 := Hv0.out.e1
  have k_2 := Hv0.out.e2
  have k_3 := Hv0.out.e3
  have k_4 := Hv0.out.e4
  have k_5 := Hv0.out.e5
  have k_6 := Hv0.out.e6
  have k_7 := Hv0.out.e7
  have k_8 := Hv0.out.e8
  have k_9 := Hv0.out.e9
  have k_10 := Hv0.out.e10
  have k_11 := Hv0.out.e11
  have k_f := Hv0.out.fz
  have k_l := Hv0.out.lt
  go_upto_region 4 with fail
  have hSc1 := And.intro k_0 (And.intro k_2 k_3)
  refine wp_region_G (fun w' => w'.cell? ⟨b, 0, none⟩ = some (.int .i64 (s.w : Int)) ∧ w'.cell? ⟨b, 2, none⟩ = some (.int .i64 (s.x : Int)) ∧ w'.cell? ⟨b, 3, none⟩ = some (.int .i64 (s.y : Int))) (fun i => false) (by kernel_rfl) hSc1 ?_
  refine tW ?_ 0 rfl ?_ ?_; rotate_left
  · intro w' hSw; go_simp; try rfl
  try simp only [Act.put,j1,j2,j3,j4,j5,j6]
  refine tW ?_ 1 rfl ?_ ?_; rotate_left
  · intro w' hSw; go_simp; try rfl
  try simp only [Act.put,j1,j2,j3,j4,j5,j6]
  refine tW ?_ 2 rfl ?_ ?_; rotate_left
  · intro w' hSw; go_simp; try rfl
  try simp only [Act.put,j1,j2,j3,j4,j5,j6]
  refine tL ?_ 3 rfl hSc1 ?_ ?_; rotate_left
  · intro w' hSw; obtain ⟨s0, s1, s2⟩ := hSw; go_simp; try rfl
  try simp only [Act.put,j1,j2,j3,j4,j5,j6]
  refine tW ?_ 4 rfl ?_ ?_; rotate_left
  · intro w' hSw; go_simp; try rfl
  try simp only [Act.put,j1,j2,j3,j4,j5,j6]
  refine tW ?_ 5 rfl ?_ ?_; rotate_left
  · intro w' hSw; go_simp; try rfl
  try simp only [Act.put,j1,j2,j3,j4,j5,j6]
  refine tW ?_ 6 rfl ?_ ?_; rotate_left
  · intro w' hSw; go_simp; try rfl
  try simp only [Act.put,j1,j2,j3,j4,j5,j6]
  refine tL ?_ 7 rfl hSc1 ?_ ?_; rotate_left
  · intro w' hSw; obtain ⟨s0, s1, s2⟩ := hSw; go_simp; try rfl
  try simp only [Act.put,j1,j2,j3,j4,j5,j6]
  refine tW ?_ 8 rfl ?_ ?_; rotate_left
  · intro w' hSw; go_simp; try rfl
  try simp only [Act.put,j1,j2,j3,j4,j5,j6]
  refine tW ?_ 9 rfl ?_ ?_; rotate_left
  · intro w' hSw; go_simp; try rfl
  try simp only [Act.put,j1,j2,j3,j4,j5,j6]
  refine tW ?_ 10 rfl ?_ ?_; rotate_left
  · intro w' hSw; go_simp; try rfl
  try simp only [Act.put,j1,j2,j3,j4,j5,j6]
  refine tW ?_ 11 rfl ?_ ?_; rotate_left
  · intro w' hSw; go_simp; try rfl
  try simp only [Act.put,j1,j2,j3,j4,j5,j6]
  refine tL ?_ 12 rfl hSc1 ?_ ?_; rotate_left
  · intro w' hSw; obtain ⟨s0, s1, s2⟩ := hSw; go_simp; try rfl
  try simp only [Act.put,j1,j2,j3,j4,j5,j6]
  refine tW ?_ 13 rfl ?_ ?_; rotate_left
  · intro w' hSw; go_simp; try rfl
  try simp only [Act.put,j1,j2,j3,j4,j5,j6]
  refine tW ?_ 14 rfl ?_ ?_; rotate_left
  · intro w' hSw; go_simp; try rfl
  try simp only [Act.put,j1,j2,j3,j4,j5,j6]
  refine tW ?_ 15 rfl ?_ ?_; rotate_left
  · intro w' hSw; go_simp; try rfl
  try simp only [Act.put,j1,j2,j3,j4,j5,j6]
  refine tL ?_ 16 rfl hSc1 ?_ ?_; rotate_left
  · intro w' hSw; obtain ⟨s0, s1, s2⟩ := hSw; go_simp; try rfl
  try simp only [Act.put,j1,j2,j3,j4,j5,j6]
  refine tW ?_ 17 rfl ?_ ?_; rotate_left
  · intro w' hSw; go_simp; try rfl
  try simp only [Act.put,j1,j2,j3,j4,j5,j6]
  refine tW ?_ 18 rfl ?_ ?_; rotate_left
  · intro w' hSw; go_simp; try rfl
  try simp only [Act.put,j1,j2,j3,j4,j5,j6]
  refine tW ?_ 19 rfl ?_ ?_; rotate_left
  · intro w' hSw; go_simp; try rfl
  try simp only [Act.put,j1,j2,j3,j4,j5,j6]
  refine tW ?_ 20 rfl ?_ ?_; rotate_left
  · intro w' hSw; go_simp; try rfl
  try simp only [Act.put,j1,j2,j3,j4,j5,j6]
  refine wpAnyG_done (by kernel_rfl) ?_ _
  obtain ⟨v1, hv1⟩ : ∃ x, v0.drew = x := ⟨_, rfl⟩
  have HBv1 : Hid (Below v0.heap.size v0 v1) := Lib.hid (by rw [← hv1]; exact (Below.refl _ _).drew)
  rw [hv1]
  have hzv1 := HBv1.out.size
  have Hv1 := Lib.hid (Hv0.out.below HBv1.out)
  have HUv1 : Hid (Upd b 0 (0 + 12) (fun k => k = g ∨ k ∈ blkOf ah) w v1) := Lib.hid (HUv0.out.below HBv1.out Hv0.out.lt)
  have qn_0 := kC HBv1.out q_l q_0
  have qn_1 := kC HBv1.out q_l q_1
  have qn_2 := kC HBv1.out q_l q_2
  have qn_3 := kC HBv1.out q_l q_3
  have qn_4 := kC HBv1.out q_l q_4
  have qn_l := Nat.lt_of_lt_of_le q_l HBv1.out.size
  clear q_0 q_1 q_2 q_3 q_4 q_l
  have HA2n := Lib.hid (HA2.out.keep HBv1.out)
  clear k_f k_l k_0 k_1 k_2 k_3 k_4 k_5 k_6 k_7 k_8 k_9 k_10 k_11 hv1 hSc1
  have k_0 := Hv1.out.e0
  have k_1 := Hv1.out.e1
  have k_2 := Hv1.out.e2
  have k_3 := Hv1.out.e3
  have k_4 := Hv1.out.e4
  have k_5 := Hv1.out.e5
  have k_6 := Hv1.out.e6
  have k_7 := Hv1.out.e7
  have k_8 := Hv1.out.e8
  have k_9 := Hv1.out.e9
  have k_10 := Hv1.out.e10
  have k_11 := Hv1.out.e11
  have k_f := Hv1.out.fz
  have k_l := Hv1.out.lt
  obtain ⟨D, hD⟩ : ∃ a, argA xs 0 0 = a := ⟨_, rfl⟩
  have HD := Lib.hid hD
  clear hD
  go_wp2_with fail
  refine (HCALL 0 0 _ (by omega) HA2n.out).mono ?_
  rw [HD.out]
  rintro e v2 ⟨rfl, hbv2⟩
  have HBv2 := Lib.hid hbv2
  have hzv2 := HBv2.out.size
  have Hv2 := Lib.hid (Hv1.out.below HBv2.out)
  have HUv2 : Hid (Upd b 0 (0 + 12) (fun k => k = g ∨ k ∈ blkOf ah) w v2) := Lib.hid (HUv1.out.below HBv2.out Hv1.out.lt)
  have qnn_0 := kC HBv2.out qn_l qn_0
  have qnn_1 := kC HBv2.out qn_l qn_1
  have qnn_2 := kC HBv2.out qn_l qn_2
  have qnn_3 := kC HBv2.out qn_l qn_3
  have qnn_4 := kC HBv2.out qn_l qn_4
  have qnn_l := Nat.lt_of_lt_of_le qn_l HBv2.out.size
  clear qn_0 qn_1 qn_2 qn_3 qn_4 qn_l
  have HA2nn := Lib.hid (HA2n.out.keep HBv2.out)
  clear k_f k_l k_0 k_1 k_2 k_3 k_4 k_5 k_6 k_7 k_8 k_9 k_10 k_11 hbv2
  have k_0 := Hv2.out.e0
  have k_1 := Hv2.out.e1
  have k_2 := Hv2.out.e2
  have k_3 := Hv2.out.e3
  have k_4 := Hv2.out.e4
  have k_5 := Hv2.out.e5
  have k_6 := Hv2.out.e6
  have k_7 := Hv2.out.e7
  have k_8 := Hv2.out.e8
  have k_9 := Hv2.out.e9
  have k_10 := Hv2.out.e10
  have k_11 := Hv2.out.e11
  have k_f := Hv2.out.fz
  have k_l := Hv2.out.lt
  by_cases hd0 : D = 0
  · subst hd0
    go_upto_region 29 with fail
    have hSc2 := And.intro k_0 k_3
    refine wp_region_G (fun w' => w'.cell? ⟨b, 0, none⟩ = some (.int .i64 (s.w : Int)) ∧ w'.cell? ⟨b, 3, none⟩ = some (.int .i64 (s.y : Int))) (fun i => false) (by kernel_rfl) hSc2 ?_
    refine tW ?_ 0 rfl ?_ ?_; rotate_left
    · intro w' hSw; go_simp; try rfl
    try simp only [Act.put,j1,j2,j3,j4,j5,j6]
    refine tW ?_ 1 rfl ?_ ?_; rotate_left
    · intro w' hSw; go_simp; try rfl
    try simp only [Act.put,j1,j2,j3,j4,j5,j6]
    refine tW ?_ 2 rfl ?_ ?_; rotate_left
    · intro w' hSw; go_simp; try rfl
    try simp only [Act.put,j1,j2,j3,j4,j5,j6]
    refine tW ?_ 3 rfl ?_ ?_; rotate_left
    · intro w' hSw; go_simp; try rfl
    try simp only [Act.put,j1,j2,j3,j4,j5,j6]
    refine tW ?_ 4 rfl ?_ ?_; rotate_left
    · intro w' hSw; go_simp; try rfl
    try simp only [Act.put,j1,j2,j3,j4,j5,j6]
    refine tL ?_ 5 rfl hSc2 ?_ ?_; rotate_left
    · intro w' hSw; obtain ⟨s0, s1⟩ := hSw; go_simp; try rfl
    try simp only [Act.put,j1,j2,j3,j4,j5,j6]
    refine tW ?_ 6 rfl ?_ ?_; rotate_left
    · intro w' hSw; go_simp; try rfl
    try simp only [Act.put,j1,j2,j3,j4,j5,j6]
    refine tW ?_ 7 rfl ?_ ?_; rotate_left
    · intro w' hSw; go_simp; try rfl
    try simp only [Act.put,j1,j2,j3,j4,j5,j6]
    refine tW ?_ 8 rfl ?_ ?_; rotate_left
    · intro w' hSw; go_simp; try rfl
    try simp only [Act.put,j1,j2,j3,j4,j5,j6]
    refine tW ?_ 9 rfl ?_ ?_; rotate_left
    · intro w' hSw; go_simp; try rfl
    try simp only [Act.put,j1,j2,j3,j4,j5,j6]
    refine tL ?_ 10 rfl hSc2 ?_ ?_; rotate_left
    · intro w' hSw; obtain ⟨s0, s1⟩ := hSw; go_simp; try rfl
    try simp only [Act.put,j1,j2,j3,j4,j5,j6]
    refine tW ?_ 11 rfl ?_ ?_; rotate_left
    · intro w' hSw; go_simp; try rfl
    try simp only [Act.put,j1,j2,j3,j4,j5,j6]
    refine wpAnyG_one (i := 12) (by kernel_rfl) rfl hSc2 (fun K' hK => ?_)
    simp only [j1,j2,j3]
    go_simp
    refine (clear_c lo b s g cc ah dh _ cr pn Hv2.out.drew (by omega) (by rw [HCN.out]; omega) (by rw [HCN.out]; exact hn240)).mono ?_
    rintro e x1 ⟨rfl, hax, hcx⟩
    have HR : Hid (ScrR lo b 0 (clr cr pn s) g ah w x1) := Lib.hid (.mk hax (HUv2.out.drew.transN (Upd.ofCh (S := fun i => i = g) hcx Hv2.out.lt (fun e => HS.out.gb e.symm) (fun i hi => .inl hi)) (fun i hi => .inl (.inl hi))))
    have hSx : x1.cell? ⟨b, 0, none⟩ = some (.int .i64 (s.w : Int)) ∧ x1.cell? ⟨b, 3, none⟩ = some (.int .i64 (s.y : Int)) := ⟨hax.c0, hax.c3⟩
    clear hax hcx
    refine hK.out _ _ (Or.inr hSx) ?_
    clear hK K'
    try simp only [Act.put,j1,j2,j3,j4,j5,j6]
    refine wpAnyG_done (by kernel_rfl) ?_ _
    go_wp2_with fail
    first | refine bodyPost_end (v := .tuple #[]) (by simp [results, Tryz.results82]) rfl ?_ | refine bodyPost_ret (v := .tuple #[]) (by simp [results, Tryz.results82]) rfl ?_
    refine ⟨rfl, ?_⟩
    unfold csiS
    rw [if_neg (by decide), if_neg (by decide), if_neg (by decide), if_neg (by decide), if_neg (by decide), if_neg (by decide), if_pos (by decide)]
    have e1 : eraS s 0 0 0 = eraS s 0 0 0 := rfl
    rw [HD.out, HP.out, HPN.out]
    unfold eraS
    rw [if_pos rfl]
    rw [HCR.out]
    exact HR.out
  by_cases hd1 : D = 1
  · subst hd1
    go_upto_region 31 with fail
    have hSc2 := And.intro k_0 k_3
    refine wp_region_G (fun w' => w'.cell? ⟨b, 0, none⟩ = some (.int .i64 (s.w : Int)) ∧ w'.cell? ⟨b, 3, none⟩ = some (.int .i64 (s.y : Int))) (fun i => false) (by kernel_rfl) hSc2 ?_
    refine tW ?_ 0 rfl ?_ ?_; rotate_left
    · intro w' hSw; go_simp; try rfl
    try simp only [Act.put,j1,j2,j3,j4,j5,j6]
    refine tW ?_ 1 rfl ?_ ?_; rotate_left
    · intro w' hSw; go_simp; try rfl
    try simp only [Act.put,j1,j2,j3,j4,j5,j6]
    refine tW ?_ 2 rfl ?_ ?_; rotate_left
    · intro w' hSw; go_simp; try rfl
    try simp only [Act.put,j1,j2,j3,j4,j5,j6]
    refine tW ?_ 3 rfl ?_ ?_; rotate_left
    · intro w' hSw; go_simp; try rfl
    try simp only [Act.put,j1,j2,j3,j4,j5,j6]
    refine tL ?_ 4 rfl hSc2 ?_ ?_; rotate_left
    · intro w' hSw; obtain ⟨s0, s1⟩ := hSw; go_simp; try rfl
    try simp only [Act.put,j1,j2,j3,j4,j5,j6]
    refine tW ?_ 5 rfl ?_ ?_; rotate_left
    · intro w' hSw; go_simp; try rfl
    try simp only [Act.put,j1,j2,j3,j4,j5,j6]
    refine tW ?_ 6 rfl ?_ ?_; rotate_left
    · intro w' hSw; go_simp; try rfl
    try simp only [Act.put,j1,j2,j3,j4,j5,j6]
    refine tW ?_ 7 rfl ?_ ?_; rotate_left
    · intro w' hSw; go_simp; try rfl
    try simp only [Act.put,j1,j2,j3,j4,j5,j6]
    refine tL ?_ 8 rfl hSc2 ?_ ?_; rotate_left
    · intro w' hSw; obtain ⟨s0, s1⟩ := hSw; go_simp; try rfl
    try simp only [Act.put,j1,j2,j3,j4,j5,j6]
    refine tW ?_ 9 rfl ?_ ?_; rotate_left
    · intro w' hSw; go_simp; try rfl
    try simp only [Act.put,j1,j2,j3,j4,j5,j6]
    refine tW ?_ 10 rfl ?_ ?_; rotate_left
    · intro w' hSw; go_simp; try rfl
    try simp only [Act.put,j1,j2,j3,j4,j5,j6]
    refine tW ?_ 11 rfl ?_ ?_; rotate_left
    · intro w' hSw; go_simp; try rfl
    try simp only [Act.put,j1,j2,j3,j4,j5,j6]
    refine wpAnyG_one (i := 12) (by kernel_rfl) rfl hSc2 (fun K' hK => ?_)
    simp only [j1,j2,j3]
    go_simp
    refine (clear_c lo b s g cc ah dh _ p (cr + 1) Hv2.out.drew (by omega) (by rw [HCN.out]; omega) (by rw [HCN.out]; exact hn240)).mono ?_
    rintro e x1 ⟨rfl, hax, hcx⟩
    have HR : Hid (ScrR lo b 0 (clr p (cr + 1) s) g ah w x1) := Lib.hid (.mk hax (HUv2.out.drew.transN (Upd.ofCh (S := fun i => i = g) hcx Hv2.out.lt (fun e => HS.out.gb e.symm) (fun i hi => .inl hi)) (fun i hi => .inl (.inl hi))))
    have hSx : x1.cell? ⟨b, 0, none⟩ = some (.int .i64 (s.w : Int)) ∧ x1.cell? ⟨b, 3, none⟩ = some (.int .i64 (s.y : Int)) := ⟨hax.c0, hax.c3⟩
    clear hax hcx
    refine hK.out _ _ (Or.inr hSx) ?_
    clear hK K'
    try simp only [Act.put,j1,j2,j3,j4,j5,j6]
    refine wpAnyG_done (by kernel_rfl) ?_ _
    go_wp2_with fail
    first | refine bodyPost_end (v := .tuple #[]) (by simp [results, Tryz.results82]) rfl ?_ | refine bodyPost_ret (v := .tuple #[]) (by simp [results, Tryz.results82]) rfl ?_
    refine ⟨rfl, ?_⟩
    unfold csiS
    rw [if_neg (by decide), if_neg (by decide), if_neg (by decide), if_neg (by decide), if_neg (by decide), if_neg (by decide), if_pos (by decide)]
    have e1 : eraS s 0 0 0 = eraS s 0 0 0 := rfl
    rw [HD.out, HP.out, HPN.out]
    unfold eraS
    rw [if_neg (by decide), if_pos rfl]
    rw [HCR.out]
    exact HR.out
  by_cases hd2 : D = 2
  · subst hd2
    go_upto_region 33 with fail
    have hSc2 := And.intro k_0 k_3
    refine wp_region_G (fun w' => w'.cell? ⟨b, 0, none⟩ = some (.int .i64 (s.w : Int)) ∧ w'.cell? ⟨b, 3, none⟩ = some (.int .i64 (s.y : Int))) (fun i => false) (by kernel_rfl) hSc2 ?_
    refine tW ?_ 0 rfl ?_ ?_; rotate_left
    · intro w' hSw; go_simp; try rfl
    try simp only [Act.put,j1,j2,j3,j4,j5,j6]
    refine tW ?_ 1 rfl ?_ ?_; rotate_left
    · intro w' hSw; go_simp; try rfl
    try simp only [Act.put,j1,j2,j3,j4,j5,j6]
    refine tW ?_ 2 rfl ?_ ?_; rotate_left
    · intro w' hSw; go_simp; try rfl
    try simp only [Act.put,j1,j2,j3,j4,j5,j6]
    refine tW ?_ 3 rfl ?_ ?_; rotate_left
    · intro w' hSw; go_simp; try rfl
    try simp only [Act.put,j1,j2,j3,j4,j5,j6]
    refine tL ?_ 4 rfl hSc2 ?_ ?_; rotate_left
    · intro w' hSw; obtain ⟨s0, s1⟩ := hSw; go_simp; try rfl
    try simp only [Act.put,j1,j2,j3,j4,j5,j6]
    refine tW ?_ 5 rfl ?_ ?_; rotate_left
    · intro w' hSw; go_simp; try rfl
    try simp only [Act.put,j1,j2,j3,j4,j5,j6]
    refine tW ?_ 6 rfl ?_ ?_; rotate_left
    · intro w' hSw; go_simp; try rfl
    try simp only [Act.put,j1,j2,j3,j4,j5,j6]
    refine tW ?_ 7 rfl ?_ ?_; rotate_left
    · intro w' hSw; go_simp; try rfl
    try simp only [Act.put,j1,j2,j3,j4,j5,j6]
    refine tL ?_ 8 rfl hSc2 ?_ ?_; rotate_left
    · intro w' hSw; obtain ⟨s0, s1⟩ := hSw; go_simp; try rfl
    try simp only [Act.put,j1,j2,j3,j4,j5,j6]
    refine tW ?_ 9 rfl ?_ ?_; rotate_left
    · intro w' hSw; go_simp; try rfl
    try simp only [Act.put,j1,j2,j3,j4,j5,j6]
    refine tW ?_ 10 rfl ?_ ?_; rotate_left
    · intro w' hSw; go_simp; try rfl
    try simp only [Act.put,j1,j2,j3,j4,j5,j6]
    refine tW ?_ 11 rfl ?_ ?_; rotate_left
    · intro w' hSw; go_simp; try rfl
    try simp only [Act.put,j1,j2,j3,j4,j5,j6]
    refine tW ?_ 12 rfl ?_ ?_; rotate_left
    · intro w' hSw; go_simp; try rfl
    try simp only [Act.put,j1,j2,j3,j4,j5,j6]
    refine tL ?_ 13 rfl hSc2 ?_ ?_; rotate_left
    · intro w' hSw; obtain ⟨s0, s1⟩ := hSw; go_simp; try rfl
    try simp only [Act.put,j1,j2,j3,j4,j5,j6]
    refine tW ?_ 14 rfl ?_ ?_; rotate_left
    · intro w' hSw; go_simp; try rfl
    try simp only [Act.put,j1,j2,j3,j4,j5,j6]
    refine tW ?_ 15 rfl ?_ ?_; rotate_left
    · intro w' hSw; go_simp; try rfl
    try simp only [Act.put,j1,j2,j3,j4,j5,j6]
    refine tW ?_ 16 rfl ?_ ?_; rotate_left
    · intro w' hSw; go_simp; try rfl
    try simp only [Act.put,j1,j2,j3,j4,j5,j6]
    refine tW ?_ 17 rfl ?_ ?_; rotate_left
    · intro w' hSw; go_simp; try rfl
    try simp only [Act.put,j1,j2,j3,j4,j5,j6]
    refine tL ?_ 18 rfl hSc2 ?_ ?_; rotate_left
    · intro w' hSw; obtain ⟨s0, s1⟩ := hSw; go_simp; try rfl
    try simp only [Act.put,j1,j2,j3,j4,j5,j6]
    refine tW ?_ 19 rfl ?_ ?_; rotate_left
    · intro w' hSw; go_simp; try rfl
    try simp only [Act.put,j1,j2,j3,j4,j5,j6]
    refine wpAnyG_one (i := 20) (by kernel_rfl) rfl hSc2 (fun K' hK => ?_)
    simp only [j1,j2,j3]
    go_simp
    refine (clear_c lo b s g cc ah dh _ p pn Hv2.out.drew (by omega) (by rw [HCN.out]; omega) (by rw [HCN.out]; exact hn240)).mono ?_
    rintro e x1 ⟨rfl, hax, hcx⟩
    have HR : Hid (ScrR lo b 0 (clr p pn s) g ah w x1) := Lib.hid (.mk hax (HUv2.out.drew.transN (Upd.ofCh (S := fun i => i = g) hcx Hv2.out.lt (fun e => HS.out.gb e.symm) (fun i hi => .inl hi)) (fun i hi => .inl (.inl hi))))
    have hSx : x1.cell? ⟨b, 0, none⟩ = some (.int .i64 (s.w : Int)) ∧ x1.cell? ⟨b, 3, none⟩ = some (.int .i64 (s.y : Int)) := ⟨hax.c0, hax.c3⟩
    clear hax hcx
    refine hK.out _ _ (Or.inr hSx) ?_
    clear hK K'
    try simp only [Act.put,j1,j2,j3,j4,j5,j6]
    refine wpAnyG_done (by kernel_rfl) ?_ _
    go_wp2_with fail
    first | refine bodyPost_end (v := .tuple #[]) (by simp [results, Tryz.results82]) rfl ?_ | refine bodyPost_ret (v := .tuple #[]) (by simp [results, Tryz.results82]) rfl ?_
    refine ⟨rfl, ?_⟩
    unfold csiS
    rw [if_neg (by decide), if_neg (by decide), if_neg (by decide), if_neg (by decide), if_neg (by decide), if_neg (by decide), if_pos (by decide)]
    have e1 : eraS s 0 0 0 = eraS s 0 0 0 := rfl
    rw [HD.out, HP.out, HPN.out]
    unfold eraS
    rw [if_neg (by decide), if_neg (by decide), if_pos rfl]
    exact HR.out
  have r0 : (D == 0) = false := beq_eq_false_iff_ne.2 hd0
  have r1 : (D == 1) = false := beq_eq_false_iff_ne.2 hd1
  have r2 : (D == 2) = false := beq_eq_false_iff_ne.2 hd2
  go_wp2_with fail
  first | refine bodyPost_end (v := .tuple #[]) (by simp [results, Tryz.results82]) rfl ?_ | refine bodyPost_ret (v := .tuple #[]) (by simp [results, Tryz.results82]) rfl ?_
  refine ⟨rfl, ?_⟩
  unfold csiS
  rw [if_neg (by decide), if_neg (by decide), if_neg (by decide), if_neg (by decide), if_neg (by decide), if_neg (by decide), if_pos (by decide)]
  rw [HD.out]
  unfold eraS
  rw [if_neg hd0, if_neg hd1, if_neg hd2]
  exact .mk Hv2.out HUv2.out
end
section
open Go.RowKit
theorem csi76_c (lo b : Nat) (s : Scr) (g cc : Nat) (ah : Option Addr) (dh : Nat) (w : World) (kd : Int) (xs : List Int) (aa : Option Addr) (ca : Nat) (tx : ByteArray) (h : ScrAt lo b 0 s g cc ah dh w) (ok : ScrOK s) (hlo : lo ≤ w.heap.size) (ha : Sl intE 1 w aa xs) (hna : ∀ k ∈ blkOf aa, k ≠ b ∧ k ≠ g ∧ k ∉ blkOf ah) (hx8 : xs.length ≤ 8) (hxr : ∀ x ∈ xs, -1 ≤ x ∧ x ≤ 9999) :
    Calls Tryz.prog 82 #[.pointer (some ⟨b, 0, none⟩), .agg #[.int .i64 kd, .int .i64 76, .bool false, .slice aa xs.length ca, .string tx]] w fun e w' => e = .returned (.tuple #[]) ∧ ScrR lo b 0 (csiS s 76 xs) g ah w w' := by
  have HS := Lib.hid h
  have HOK := Lib.hid ok
  have HA := Lib.hid ha
  have HNA := Lib.hid hna
  have HXR := Lib.hid hxr
  have HX8 := Lib.hid hx8
  have hw1 := ok.w1
  have hw2 := ok.w2
  have hh1 := ok.h1
  have hh2 := ok.h2
  have hx := ok.hx
  have hy := ok.hy
  have hcur := ok.cur
  have hcn := ok.cn
  have hlt := h.lt
  obtain ⟨n, hn⟩ : ∃ n, arg1 xs 0 = n := ⟨_, rfl⟩
  obtain ⟨A0, hA0⟩ : ∃ a, argA xs 0 1 = a := ⟨_, rfl⟩
  have hAb : -1 ≤ A0 ∧ A0 ≤ 9999 := by rw [← hA0]; exact argA_bd HXR.out (by omega) (by omega)
  have hm : max 1 A0 = (n : Int) := by rw [← hn, ← hA0]; unfold arg1; omega
  have hn1 : 1 ≤ n := by omega
  have hn2 : n ≤ 9999 := by omega
  have HN := Lib.hid hn
  have HA0 := Lib.hid hA0
  obtain ⟨p, hp⟩ : ∃ p, s.y * s.w = p := ⟨_, rfl⟩
  obtain ⟨mx, hmx⟩ : ∃ m, min s.x (s.w - 1) = m := ⟨_, rfl⟩
  obtain ⟨cr, hcr⟩ : ∃ c, curS s = c := ⟨_, rfl⟩
  obtain ⟨pn, hpn⟩ : ∃ q, (s.y + 1) * s.w = q := ⟨_, rfl⟩
  obtain ⟨nn, hnn⟩ : ∃ q, s.w * s.h = q := ⟨_, rfl⟩
  have hpi : (s.y : Int) * (s.w : Int) = (p : Int) := by rw [← hp]; exact (Int.natCast_mul _ _).symm
  have hpni : ((s.y : Int) + 1) * (s.w : Int) = (pn : Int) := by rw [← hpn]; exact (Int.natCast_mul (s.y + 1) s.w).symm
  have hnni : (s.w : Int) * (s.h : Int) = (nn : Int) := by rw [← hnn]; exact (Int.natCast_mul _ _).symm
  have hmi : min (s.x : Int) ((s.w : Int) - 1) = (mx : Int) := by omega
  have hcri : (p : Int) + (mx : Int) = (cr : Int) := by rw [← hcr, ← hp, ← hmx]; unfold curS; omega
  have hn240 : nn ≤ 240 := by rw [← hnn]; exact Nat.mul_le_mul hw2 hh2
  rw [hcr, hp, hpn, hnn] at hcur
  rw [hnn] at hcn
  obtain ⟨hc1, hc2, hc3⟩ := hcur
  have HCN := Lib.hid hcn
  have HP := Lib.hid hp
  have HMX := Lib.hid hmx
  have HCR := Lib.hid hcr
  have HPN := Lib.hid hpn
  have HNN := Lib.hid hnn
  have hwA : IntKind.i64.wrap ((s.w : Int) - 1) = (s.w : Int) - 1 := IntWalk.i64_in _ ⟨by omega, by omega⟩
  have hwB : IntKind.i64.wrap (p : Int) = (p : Int) := IntWalk.i64_in _ ⟨by omega, by omega⟩
  have hwC : IntKind.i64.wrap (cr : Int) = (cr : Int) := IntWalk.i64_in _ ⟨by omega, by omega⟩
  have hwD : IntKind.i64.wrap (pn : Int) = (pn : Int) := IntWalk.i64_in _ ⟨by omega, by omega⟩
  have hwE : IntKind.i64.wrap (nn : Int) = (nn : Int) := IntWalk.i64_in _ ⟨by omega, by omega⟩
  have hwF : IntKind.i64.wrap ((s.y : Int) + 1) = (s.y : Int) + 1 := IntWalk.i64_in _ ⟨by omega, by omega⟩
  have hwG : IntKind.i64.wrap ((cr : Int) + 1) = (cr : Int) + 1 := IntWalk.i64_in _ ⟨by omega, by omega⟩
  obtain ⟨ln, hln⟩ : ∃ l, xs.length = l := ⟨_, rfl⟩
  have HLN := Lib.hid hln
  have HCALL : ∀ (i : Nat) (d : Int) (W : World), i ≤ 7 → Sl intE 1 W aa xs → Calls Tryz.prog 117 #[.agg #[.int .i64 kd, .int .i64 76, .bool false, .slice aa ln ca, .string tx], .int .i64 i, .int .i64 d] W fun e w' => e = .returned (.int .i64 (argA xs i d)) ∧ Below W.heap.size W w' := fun i d W hi hW => by
    rw [← hln]
    exact l03ArgG_c kd 76 false tx xs aa ca i d W hW hi hx8
  rw [hln]
  clear h ok ha hna hxr hx8 hn hA0 hp hmx hcr hpn hnn hcn hln
  go_enter Tryz.func82, Tryz.ntmps82
  go_wp2_with fail
  refine (HCALL 0 1 _ (by omega) (HA.out.alloc _)).mono ?_
  rintro e v0 ⟨rfl, hb0⟩
  rw [HA0.out]
  have HB0 : Hid (Below w.heap.size w v0) := Lib.hid (((Below.refl w.heap.size w).alloc (Nat.le_refl _) _).trans (hb0.mono (by simp)))
  have hz0 := HB0.out.size
  have q_l : w.heap.size < v0.heap.size := by have := hb0.size; simp at this; omega
  have q_0 : v0.cell? ⟨w.heap.size, 0, none⟩ = some (.int .i64 kd) := kC hb0 (by simp) (by simp [go_sem])
  have q_1 : v0.cell? ⟨w.heap.size, 1, none⟩ = some (.int .i64 76) := kC hb0 (by simp) (by simp [go_sem])
  have q_2 : v0.cell? ⟨w.heap.size, 2, none⟩ = some (.bool false) := kC hb0 (by simp) (by simp [go_sem])
  have q_3 : v0.cell? ⟨w.heap.size, 3, none⟩ = some (.slice aa ln ca) := kC hb0 (by simp) (by simp [go_sem])
  have q_4 : v0.cell? ⟨w.heap.size, 4, none⟩ = some (.string tx) := kC hb0 (by simp) (by simp [go_sem])
  clear hb0
  have q_b : ¬ w.heap.size = b := by omega
  have HA_nb : ∀ k ∈ blkOf aa, ¬ k = b := fun k hk => (HNA.out k hk).1
  have Hv0 := Lib.hid (HS.out.below HB0.out)
  have HA2 := Lib.hid (HA.out.keep HB0.out)
  have HUv0 : Hid (Upd b 0 (0 + 12) (fun k => k = g ∨ k ∈ blkOf ah) w v0) := Lib.hid (Upd.refl'.below HB0.out HS.out.lt)
  have HA2_nb := HA_nb
  have k_0 := Hv0.out.e0
  have k_1 := Hv0.out.e1
  have k_2 := Hv0.out.e2
  have k_3 := Hv0.out.e3
  have k_4 := Hv0.out.e4
  have k_5 := Hv0.out.e5
  have k_6 := Hv0.out.e6
  have k_7 := Hv0.out.e7
  have k_8 := Hv0.out.e8
  have k_9 := Hv0.out.e9
  have k_10 := Hv0.out.e10
  have k_11 := Hv0.out.e11
  have k_f := Hv0.out.fz
  have k_l := Hv0.out.lt
  go_upto_region 4 with fail
  have hSc1 := And.intro k_0 (And.intro k_2 k_3)
  refine wp_region_G (fun w' => w'.cell? ⟨b, 0, none⟩ = some (.int .i64 (s.w : Int)) ∧ w'.cell? ⟨b, 2, none⟩ = some (.int .i64 (s.x : Int)) ∧ w'.cell? ⟨b, 3, none⟩ = some (.int .i64 (s.y : Int))) (fun i => false) (by kernel_rfl) hSc1 ?_
  refine tW ?_ 0 rfl ?_ ?_; rotate_left
  · intro w' hSw; go_simp; try rfl
  try simp only [Act.put,j1,j2,j3,j4,j5,j6]
  refine tW ?_ 1 rfl ?_ ?_; rotate_left
  · intro w' hSw; go_simp; try rfl
  try simp only [Act.put,j1,j2,j3,j4,j5,j6]
  refine tW ?_ 2 rfl ?_ ?_; rotate_left
  · intro w' hSw; go_simp; try rfl
  try simp only [Act.put,j1,j2,j3,j4,j5,j6]
  refine tL ?_ 3 rfl hSc1 ?_ ?_; rotate_left
  · intro w' hSw; obtain ⟨s0, s1, s2⟩ := hSw; go_simp; try rfl
  try simp only [Act.put,j1,j2,j3,j4,j5,j6]
  refine tW ?_ 4 rfl ?_ ?_; rotate_left
  · intro w' hSw; go_simp; try rfl
  try simp only [Act.put,j1,j2,j3,j4,j5,j6]
  refine tW ?_ 5 rfl ?_ ?_; rotate_left
  · intro w' hSw; go_simp; try rfl
  try simp only [Act.put,j1,j2,j3,j4,j5,j6]
  refine tW ?_ 6 rfl ?_ ?_; rotate_left
  · intro w' hSw; go_simp; try rfl
  try simp only [Act.put,j1,j2,j3,j4,j5,j6]
  refine tL ?_ 7 rfl hSc1 ?_ ?_; rotate_left
  · intro w' hSw; obtain ⟨s0, s1, s2⟩ := hSw; go_simp; try rfl
  try simp only [Act.put,j1,j2,j3,j4,j5,j6]
  refine tW ?_ 8 rfl ?_ ?_; rotate_left
  · intro w' hSw; go_simp; try rfl
  try simp only [Act.put,j1,j2,j3,j4,j5,j6]
  refine tW ?_ 9 rfl ?_ ?_; rotate_left
  · intro w' hSw; go_simp; try rfl
  try simp only [Act.put,j1,j2,j3,j4,j5,j6]
  refine tW ?_ 10 rfl ?_ ?_; rotate_left
  · intro w' hSw; go_simp; try rfl
  try simp only [Act.put,j1,j2,j3,j4,j5,j6]
  refine tW ?_ 11 rfl ?_ ?_; rotate_left
  · intro w' hSw; go_simp; try rfl
  try simp only [Act.put,j1,j2,j3,j4,j5,j6]
  refine tL ?_ 12 rfl hSc1 ?_ ?_; rotate_left
  · intro w' hSw; obtain ⟨s0, s1, s2⟩ := hSw; go_simp; try rfl
  try simp only [Act.put,j1,j2,j3,j4,j5,j6]
  refine tW ?_ 13 rfl ?_ ?_; rotate_left
  · intro w' hSw; go_simp; try rfl
  try simp only [Act.put,j1,j2,j3,j4,j5,j6]
  refine tW ?_ 14 rfl ?_ ?_; rotate_left
  · intro w' hSw; go_simp; try rfl
  try simp only [Act.put,j1,j2,j3,j4,j5,j6]
  refine tW ?_ 15 rfl ?_ ?_; rotate_left
  · intro w' hSw; go_simp; try rfl
  try simp only [Act.put,j1,j2,j3,j4,j5,j6]
  refine tL ?_ 16 rfl hSc1 ?_ ?_; rotate_left
  · intro w' hSw; obtain ⟨s0, s1, s2⟩ := hSw; go_simp; try rfl
  try simp only [Act.put,j1,j2,j3,j4,j5,j6]
  refine tW ?_ 17 rfl ?_ ?_; rotate_left
  · intro w' hSw; go_simp; try rfl
  try simp only [Act.put,j1,j2,j3,j4,j5,j6]
  refine tW ?_ 18 rfl ?_ ?_; rotate_left
  · intro w' hSw; go_simp; try rfl
  try simp only [Act.put,j1,j2,j3,j4,j5,j6]
  refine tW ?_ 19 rfl ?_ ?_; rotate_left
  · intro w' hSw; go_simp; try rfl
  try simp only [Act.put,j1,j2,j3,j4,j5,j6]
  refine tW ?_ 20 rfl ?_ ?_; rotate_left
  · intro w' hSw; go_simp; try rfl
  try simp only [Act.put,j1,j2,j3,j4,j5,j6]
  refine wpAnyG_done (by kernel_rfl) ?_ _
  obtain ⟨v1, hv1⟩ : ∃ x, v0.drew = x := ⟨_, rfl⟩
  have HBv1 : Hid (Below v0.heap.size v0 v1) := Lib.hid (by rw [← hv1]; exact (Below.refl _ _).drew)
  rw [hv1]
  have hzv1 := HBv1.out.size
  have Hv1 := Lib.hid (Hv0.out.below HBv1.out)
  have HUv1 : Hid (Upd b 0 (0 + 12) (fun k => k = g ∨ k ∈ blkOf ah) w v1) := Lib.hid (HUv0.out.below HBv1.out Hv0.out.lt)
  have qn_0 := kC HBv1.out q_l q_0
  have qn_1 := kC HBv1.out q_l q_1
  have qn_2 := kC HBv1.out q_l q_2
  have qn_3 := kC HBv1.out q_l q_3
  have qn_4 := kC HBv1.out q_l q_4
  have qn_l := Nat.lt_of_lt_of_le q_l HBv1.out.size
  clear q_0 q_1 q_2 q_3 q_4 q_l
  have HA2n := Lib.hid (HA2.out.keep HBv1.out)
  clear k_f k_l k_0 k_1 k_2 k_3 k_4 k_5 k_6 k_7 k_8 k_9 k_10 k_11 hv1 hSc1
  have k_0 := Hv1.out.e0
  have k_1 := Hv1.out.e1
  have k_2 := Hv1.out.e2
  have k_3 := Hv1.out.e3
  have k_4 := Hv1.out.e4
  have k_5 := Hv1.out.e5
  have k_6 := Hv1.out.e6
  have k_7 := Hv1.out.e7
  have k_8 := Hv1.out.e8
  have k_9 := Hv1.out.e9
  have k_10 := Hv1.out.e10
  have k_11 := Hv1.out.e11
  have k_f := Hv1.out.fz
  have k_l := Hv1.out.lt
  by_cases hin : s.top ≤ s.y ∧ s.y ≤ s.bot
  · have HI : Hid (inB (s.y : Int) (s.top : Int) (s.bot : Int) = true) := Lib.hid (by simp only [inB, Bool.and_eq_true, decide_eq_true_eq]; omega)
    have htb := HOK.out.tb
    have hbh := HOK.out.bh
    obtain ⟨m, hmm⟩ : ∃ m, min n (s.bot - s.y + 1) = m := ⟨_, rfl⟩
    have hmi2 : min (n : Int) ((s.bot : Int) - (s.y : Int) + 1) = (m : Int) := by omega
    have hm10 : m ≤ 10 := by omega
    have HM := Lib.hid hmm
    have hwI : IntKind.i64.wrap ((s.bot : Int) - (s.y : Int)) = (s.bot : Int) - (s.y : Int) := IntWalk.i64_in _ ⟨by omega, by omega⟩
    have hwJ : IntKind.i64.wrap ((s.bot : Int) - (s.y : Int) + 1) = (s.bot : Int) - (s.y : Int) + 1 := IntWalk.i64_in _ ⟨by omega, by omega⟩
    have hwK : IntKind.i64.wrap (-(m : Int)) = -(m : Int) := IntWalk.i64_in _ ⟨by omega, by omega⟩
    have HIN := Lib.hid hin
    clear hin hmm
    go_upto_region 36 with fail
    have hSc2 := And.intro k_3 (And.intro k_5 k_6)
    refine wp_region_G (fun w' => w'.cell? ⟨b, 3, none⟩ = some (.int .i64 (s.y : Int)) ∧ w'.cell? ⟨b, 5, none⟩ = some (.int .i64 (s.top : Int)) ∧ w'.cell? ⟨b, 6, none⟩ = some (.int .i64 (s.bot : Int))) (fun i => false) (by kernel_rfl) hSc2 ?_
    refine tW ?_ 0 rfl ?_ ?_; rotate_left
    · intro w' hSw; go_simp; try rfl
    try simp only [Act.put,j1,j2,j3,j4,j5,j6]
    refine tW ?_ 1 rfl ?_ ?_; rotate_left
    · intro w' hSw; go_simp; try rfl
    try simp only [Act.put,j1,j2,j3,j4,j5,j6]
    refine tW ?_ 2 rfl ?_ ?_; rotate_left
    · intro w' hSw; go_simp; try rfl
    try simp only [Act.put,j1,j2,j3,j4,j5,j6]
    refine tL ?_ 3 rfl hSc2 ?_ ?_; rotate_left
    · intro w' hSw; obtain ⟨s0, s1, s2⟩ := hSw; go_simp; try rfl
    try simp only [Act.put,j1,j2,j3,j4,j5,j6]
    refine tW ?_ 4 rfl ?_ ?_; rotate_left
    · intro w' hSw; go_simp; try rfl
    try simp only [Act.put,j1,j2,j3,j4,j5,j6]
    refine tW ?_ 5 rfl ?_ ?_; rotate_left
    · intro w' hSw; go_simp; try rfl
    try simp only [Act.put,j1,j2,j3,j4,j5,j6]
    refine tW ?_ 6 rfl ?_ ?_; rotate_left
    · intro w' hSw; go_simp; try rfl
    try simp only [Act.put,j1,j2,j3,j4,j5,j6]
    refine tL ?_ 7 rfl hSc2 ?_ ?_; rotate_left
    · intro w' hSw; obtain ⟨s0, s1, s2⟩ := hSw; go_simp; try rfl
    try simp only [Act.put,j1,j2,j3,j4,j5,j6]
    refine tW ?_ 8 rfl ?_ ?_; rotate_left
    · intro w' hSw; go_simp; try rfl
    try simp only [Act.put,j1,j2,j3,j4,j5,j6]
    refine tW ?_ 9 rfl ?_ ?_; rotate_left
    · intro w' hSw; go_simp; try rfl
    try simp only [Act.put,j1,j2,j3,j4,j5,j6]
    refine tW ?_ 10 rfl ?_ ?_; rotate_left
    · intro w' hSw; go_simp; try rfl
    try simp only [Act.put,j1,j2,j3,j4,j5,j6]
    refine tL ?_ 11 rfl hSc2 ?_ ?_; rotate_left
    · intro w' hSw; obtain ⟨s0, s1, s2⟩ := hSw; go_simp; try rfl
    try simp only [Act.put,j1,j2,j3,j4,j5,j6]
    refine wpAnyG_one (i := 12) (by kernel_rfl) rfl hSc2 (fun K' hK => ?_)
    simp only [j1,j2,j3]
    go_simp
    refine (l01In_c _ _ _ _).mono ?_
    rw [HI.out]
    rintro e x1 ⟨rfl, rfl⟩
    refine hK.out _ _ (Or.inr hSc2) ?_
    clear hK K'
    try simp only [Act.put,j1,j2,j3,j4,j5,j6]
    refine wpAnyG_done (by kernel_rfl) ?_ _
    obtain ⟨v2, hv2⟩ : ∃ x, v1.drew = x := ⟨_, rfl⟩
    have HBv2 : Hid (Below v1.heap.size v1 v2) := Lib.hid (by rw [← hv2]; exact (Below.refl _ _).drew)
    rw [hv2]
    have hzv2 := HBv2.out.size
    have Hv2 := Lib.hid (Hv1.out.below HBv2.out)
    have HUv2 : Hid (Upd b 0 (0 + 12) (fun k => k = g ∨ k ∈ blkOf ah) w v2) := Lib.hid (HUv1.out.below HBv2.out Hv1.out.lt)
    have qnn_0 := kC HBv2.out qn_l qn_0
    have qnn_1 := kC HBv2.out qn_l qn_1
    have qnn_2 := kC HBv2.out qn_l qn_2
    have qnn_3 := kC HBv2.out qn_l qn_3
    have qnn_4 := kC HBv2.out qn_l qn_4
    have qnn_l := Nat.lt_of_lt_of_le qn_l HBv2.out.size
    clear qn_0 qn_1 qn_2 qn_3 qn_4 qn_l
    have HA2nn := Lib.hid (HA2n.out.keep HBv2.out)
    clear k_f k_l k_0 k_1 k_2 k_3 k_4 k_5 k_6 k_7 k_8 k_9 k_10 k_11 hv2 hSc2
    have k_0 := Hv2.out.e0
    have k_1 := Hv2.out.e1
    have k_2 := Hv2.out.e2
    have k_3 := Hv2.out.e3
    have k_4 := Hv2.out.e4
    have k_5 := Hv2.out.e5
    have k_6 := Hv2.out.e6
    have k_7 := Hv2.out.e7
    have k_8 := Hv2.out.e8
    have k_9 := Hv2.out.e9
    have k_10 := Hv2.out.e10
    have k_11 := Hv2.out.e11
    have k_f := Hv2.out.fz
    have k_l := Hv2.out.lt
    go_upto_region 37 with fail
    have hSc3 := And.intro k_3 k_6
    refine wp_region_G (fun w' => w'.cell? ⟨b, 3, none⟩ = some (.int .i64 (s.y : Int)) ∧ w'.cell? ⟨b, 6, none⟩ = some (.int .i64 (s.bot : Int))) (fun i => false) (by kernel_rfl) hSc3 ?_
    refine tW ?_ 0 rfl ?_ ?_; rotate_left
    · intro w' hSw; go_simp; try rfl
    try simp only [Act.put,j1,j2,j3,j4,j5,j6]
    refine tW ?_ 1 rfl ?_ ?_; rotate_left
    · intro w' hSw; go_simp; try rfl
    try simp only [Act.put,j1,j2,j3,j4,j5,j6]
    refine tW ?_ 2 rfl ?_ ?_; rotate_left
    · intro w' hSw; go_simp; try rfl
    try simp only [Act.put,j1,j2,j3,j4,j5,j6]
    refine tW ?_ 3 rfl ?_ ?_; rotate_left
    · intro w' hSw; go_simp; try rfl
    try simp only [Act.put,j1,j2,j3,j4,j5,j6]
    refine tL ?_ 4 rfl hSc3 ?_ ?_; rotate_left
    · intro w' hSw; obtain ⟨s0, s1⟩ := hSw; go_simp; try rfl
    try simp only [Act.put,j1,j2,j3,j4,j5,j6]
    refine tW ?_ 5 rfl ?_ ?_; rotate_left
    · intro w' hSw; go_simp; try rfl
    try simp only [Act.put,j1,j2,j3,j4,j5,j6]
    refine tW ?_ 6 rfl ?_ ?_; rotate_left
    · intro w' hSw; go_simp; try rfl
    try simp only [Act.put,j1,j2,j3,j4,j5,j6]
    refine tW ?_ 7 rfl ?_ ?_; rotate_left
    · intro w' hSw; go_simp; try rfl
    try simp only [Act.put,j1,j2,j3,j4,j5,j6]
    refine tL ?_ 8 rfl hSc3 ?_ ?_; rotate_left
    · intro w' hSw; obtain ⟨s0, s1⟩ := hSw; go_simp; try rfl
    try simp only [Act.put,j1,j2,j3,j4,j5,j6]
    refine tW ?_ 9 rfl ?_ ?_; rotate_left
    · intro w' hSw; go_simp; try rfl
    try simp only [Act.put,j1,j2,j3,j4,j5,j6]
    refine tW ?_ 10 rfl ?_ ?_; rotate_left
    · intro w' hSw; go_simp; try rfl
    try simp only [Act.put,j1,j2,j3,j4,j5,j6]
    refine tW ?_ 11 rfl ?_ ?_; rotate_left
    · intro w' hSw; go_simp; try rfl
    try simp only [Act.put,j1,j2,j3,j4,j5,j6]
    refine tW ?_ 12 rfl ?_ ?_; rotate_left
    · intro w' hSw; go_simp; try rfl
    try simp only [Act.put,j1,j2,j3,j4,j5,j6]
    refine wpAnyG_done (by kernel_rfl) ?_ _
    obtain ⟨v3, hv3⟩ : ∃ x, v2.drew = x := ⟨_, rfl⟩
    have HBv3 : Hid (Below v2.heap.size v2 v3) := Lib.hid (by rw [← hv3]; exact (Below.refl _ _).drew)
    rw [hv3]
    have hzv3 := HBv3.out.size
    have Hv3 := Lib.hid (Hv2.out.below HBv3.out)
    have HUv3 : Hid (Upd b 0 (0 + 12) (fun k => k = g ∨ k ∈ blkOf ah) w v3) := Lib.hid (HUv2.out.below HBv3.out Hv2.out.lt)
    have qnnn_0 := kC HBv3.out qnn_l qnn_0
    have qnnn_1 := kC HBv3.out qnn_l qnn_1
    have qnnn_2 := kC HBv3.out qnn_l qnn_2
    have qnnn_3 := kC HBv3.out qnn_l qnn_3
    have qnnn_4 := kC HBv3.out qnn_l qnn_4
    have qnnn_l := Nat.lt_of_lt_of_le qnn_l HBv3.out.size
    clear qnn_0 qnn_1 qnn_2 qnn_3 qnn_4 qnn_l
    have HA2nnn := Lib.hid (HA2nn.out.keep HBv3.out)
    clear k_f k_l k_0 k_1 k_2 k_3 k_4 k_5 k_6 k_7 k_8 k_9 k_10 k_11 hv3 hSc3
    have k_0 := Hv3.out.e0
    have k_1 := Hv3.out.e1
    have k_2 := Hv3.out.e2
    have k_3 := Hv3.out.e3
    have k_4 := Hv3.out.e4
    have k_5 := Hv3.out.e5
    have k_6 := Hv3.out.e6
    have k_7 := Hv3.out.e7
    have k_8 := Hv3.out.e8
    have k_9 := Hv3.out.e9
    have k_10 := Hv3.out.e10
    have k_11 := Hv3.out.e11
    have k_f := Hv3.out.fz
    have k_l := Hv3.out.lt
    go_upto_region 40 with fail
    have hSc4 := And.intro k_3 k_6
    refine wp_region_G (fun w' => w'.cell? ⟨b, 3, none⟩ = some (.int .i64 (s.y : Int)) ∧ w'.cell? ⟨b, 6, none⟩ = some (.int .i64 (s.bot : Int))) (fun i => false) (by kernel_rfl) hSc4 ?_
    refine tW ?_ 0 rfl ?_ ?_; rotate_left
    · intro w' hSw; go_simp; try rfl
    try simp only [Act.put,j1,j2,j3,j4,j5,j6]
    refine tW ?_ 1 rfl ?_ ?_; rotate_left
    · intro w' hSw; go_simp; try rfl
    try simp only [Act.put,j1,j2,j3,j4,j5,j6]
    refine tW ?_ 2 rfl ?_ ?_; rotate_left
    · intro w' hSw; go_simp; try rfl
    try simp only [Act.put,j1,j2,j3,j4,j5,j6]
    refine tW ?_ 3 rfl ?_ ?_; rotate_left
    · intro w' hSw; go_simp; try rfl
    try simp only [Act.put,j1,j2,j3,j4,j5,j6]
    refine tL ?_ 4 rfl hSc4 ?_ ?_; rotate_left
    · intro w' hSw; obtain ⟨s0, s1⟩ := hSw; go_simp; try rfl
    try simp only [Act.put,j1,j2,j3,j4,j5,j6]
    refine tW ?_ 5 rfl ?_ ?_; rotate_left
    · intro w' hSw; go_simp; try rfl
    try simp only [Act.put,j1,j2,j3,j4,j5,j6]
    refine tW ?_ 6 rfl ?_ ?_; rotate_left
    · intro w' hSw; go_simp; try rfl
    try simp only [Act.put,j1,j2,j3,j4,j5,j6]
    refine tW ?_ 7 rfl ?_ ?_; rotate_left
    · intro w' hSw; go_simp; try rfl
    try simp only [Act.put,j1,j2,j3,j4,j5,j6]
    refine tL ?_ 8 rfl hSc4 ?_ ?_; rotate_left
    · intro w' hSw; obtain ⟨s0, s1⟩ := hSw; go_simp; try rfl
    try simp only [Act.put,j1,j2,j3,j4,j5,j6]
    refine tW ?_ 9 rfl ?_ ?_; rotate_left
    · intro w' hSw; go_simp; try rfl
    try simp only [Act.put,j1,j2,j3,j4,j5,j6]
    refine wpAnyG_one (i := 10) (by kernel_rfl) rfl hSc4 (fun K' hK => ?_)
    simp only [j1,j2,j3]
    go_simp
    refine (withinD_c lo b s g cc ah dh _ s.y s.bot m Hv3.out.drew HOK.out HIN.out.2 HOK.out.bh hm10 (by show lo ≤ v3.heap.size; omega)).mono ?_
    rintro e x1 ⟨rfl, g1, cc1, ah1, dh1, ha, hu, hg, hh⟩
    have e1 := scD_same s.y s.bot s m
    have HX := Lib.hid ha
    have HR : Hid (Upd b 0 (0 + 12) (fun k => k = g ∨ k ∈ blkOf ah) w x1 ∧ (g1 = g ∨ w.heap.size ≤ g1) ∧ ∀ i ∈ blkOf ah1, i ∈ blkOf ah ∨ w.heap.size ≤ i) := Lib.hid (by
      obtain ⟨g2, c2, a2, d2, _⟩ : ∃ g2 c2 a2 d2, ScrAt lo b 0 (scD s.y s.bot m s) g2 c2 a2 d2 x1 := ⟨_, _, _, _, ha⟩
      refine ⟨HUv3.out.drew.transN hu (fun i hi => .inl hi), hg.imp id (fun h => by have : v3.heap.size ≤ g1 := h; omega), fun i hi => (hh i hi).imp id (fun h => by have : v3.heap.size ≤ i := h; omega)⟩)
    have hSx : x1.cell? ⟨b, 3, none⟩ = some (.int .i64 (s.y : Int)) ∧ x1.cell? ⟨b, 6, none⟩ = some (.int .i64 (s.bot : Int)) := ⟨by have := ha.c3; rw [e1.2.2.2.1] at this; exact this, by have := ha.c6; rw [e1.2.2.2.2.2.2.1] at this; exact this⟩
    have z_2 : x1.cell? ⟨b, 2, none⟩ = some (.int .i64 s.x) := by have := ha.c2; rw [e1.2.2.1] at this; exact this
    have z_f := ha.fz
    have z_l := ha.lt
    clear ha hu hg hh
    refine hK.out _ _ (Or.inr hSx) ?_
    clear hK K'
    try simp only [Act.put,j1,j2,j3,j4,j5,j6]
    refine wpAnyG_done (by kernel_rfl) ?_ _
    go_wp2_with fail
    first | refine bodyPost_end (v := .tuple #[]) (by simp [results, Tryz.results82]) rfl ?_ | refine bodyPost_ret (v := .tuple #[]) (by simp [results, Tryz.results82]) rfl ?_
    refine ⟨rfl, ?_⟩
    unfold csiS
    rw [if_neg (by decide), if_neg (by decide), if_neg (by decide), if_neg (by decide), if_neg (by decide), if_neg (by decide), if_neg (by decide), if_pos (by decide)]
    rw [if_pos HIN.out, HN.out, HM.out]
    exact ScrR.trans HX.out HR.out.1 HR.out.2.1 HR.out.2.2 (.mk (HX.out.setv2 0 rfl) (Upd.refl'.set2 _))
  · have HI : Hid (inB (s.y : Int) (s.top : Int) (s.bot : Int) = false) := Lib.hid (by simp only [inB, Bool.and_eq_false_iff, decide_eq_false_iff_not]; omega)
    go_upto_region 36 with fail
    have hSc2 := And.intro k_3 (And.intro k_5 k_6)
    refine wp_region_G (fun w' => w'.cell? ⟨b, 3, none⟩ = some (.int .i64 (s.y : Int)) ∧ w'.cell? ⟨b, 5, none⟩ = some (.int .i64 (s.top : Int)) ∧ w'.cell? ⟨b, 6, none⟩ = some (.int .i64 (s.bot : Int))) (fun i => false) (by kernel_rfl) hSc2 ?_
    refine tW ?_ 0 rfl ?_ ?_; rotate_left
    · intro w' hSw; go_simp; try rfl
    try simp only [Act.put,j1,j2,j3,j4,j5,j6]
    refine tW ?_ 1 rfl ?_ ?_; rotate_left
    · intro w' hSw; go_simp; try rfl
    try simp only [Act.put,j1,j2,j3,j4,j5,j6]
    refine tW ?_ 2 rfl ?_ ?_; rotate_left
    · intro w' hSw; go_simp; try rfl
    try simp only [Act.put,j1,j2,j3,j4,j5,j6]
    refine tL ?_ 3 rfl hSc2 ?_ ?_; rotate_left
    · intro w' hSw; obtain ⟨s0, s1, s2⟩ := hSw; go_simp; try rfl
    try simp only [Act.put,j1,j2,j3,j4,j5,j6]
    refine tW ?_ 4 rfl ?_ ?_; rotate_left
    · intro w' hSw; go_simp; try rfl
    try simp only [Act.put,j1,j2,j3,j4,j5,j6]
    refine tW ?_ 5 rfl ?_ ?_; rotate_left
    · intro w' hSw; go_simp; try rfl
    try simp only [Act.put,j1,j2,j3,j4,j5,j6]
    refine tW ?_ 6 rfl ?_ ?_; rotate_left
    · intro w' hSw; go_simp; try rfl
    try simp only [Act.put,j1,j2,j3,j4,j5,j6]
    refine tL ?_ 7 rfl hSc2 ?_ ?_; rotate_left
    · intro w' hSw; obtain ⟨s0, s1, s2⟩ := hSw; go_simp; try rfl
    try simp only [Act.put,j1,j2,j3,j4,j5,j6]
    refine tW ?_ 8 rfl ?_ ?_; rotate_left
    · intro w' hSw; go_simp; try rfl
    try simp only [Act.put,j1,j2,j3,j4,j5,j6]
    refine tW ?_ 9 rfl ?_ ?_; rotate_left
    · intro w' hSw; go_simp; try rfl
    try simp only [Act.put,j1,j2,j3,j4,j5,j6]
    refine tW ?_ 10 rfl ?_ ?_; rotate_left
    · intro w' hSw; go_simp; try rfl
    try simp only [Act.put,j1,j2,j3,j4,j5,j6]
    refine tL ?_ 11 rfl hSc2 ?_ ?_; rotate_left
    · intro w' hSw; obtain ⟨s0, s1, s2⟩ := hSw; go_simp; try rfl
    try simp only [Act.put,j1,j2,j3,j4,j5,j6]
    refine wpAnyG_one (i := 12) (by kernel_rfl) rfl hSc2 (fun K' hK => ?_)
    simp only [j1,j2,j3]
    go_simp
    refine (l01In_c _ _ _ _).mono ?_
    rw [HI.out]
    rintro e x1 ⟨rfl, rfl⟩
    refine hK.out _ _ (Or.inr hSc2) ?_
    clear hK K'
    try simp only [Act.put,j1,j2,j3,j4,j5,j6]
    refine wpAnyG_done (by kernel_rfl) ?_ _
    obtain ⟨v2, hv2⟩ : ∃ x, v1.drew = x := ⟨_, rfl⟩
    have HBv2 : Hid (Below v1.heap.size v1 v2) := Lib.hid (by rw [← hv2]; exact (Below.refl _ _).drew)
    rw [hv2]
    have hzv2 := HBv2.out.size
    have Hv2 := Lib.hid (Hv1.out.below HBv2.out)
    have HUv2 : Hid (Upd b 0 (0 + 12) (fun k => k = g ∨ k ∈ blkOf ah) w v2) := Lib.hid (HUv1.out.below HBv2.out Hv1.out.lt)
    have qnn_0 := kC HBv2.out qn_l qn_0
    have qnn_1 := kC HBv2.out qn_l qn_1
    have qnn_2 := kC HBv2.out qn_l qn_2
    have qnn_3 := kC HBv2.out qn_l qn_3
    have qnn_4 := kC HBv2.out qn_l qn_4
    have qnn_l := Nat.lt_of_lt_of_le qn_l HBv2.out.size
    clear qn_0 qn_1 qn_2 qn_3 qn_4 qn_l
    have HA2nn := Lib.hid (HA2n.out.keep HBv2.out)
    clear k_f k_l k_0 k_1 k_2 k_3 k_4 k_5 k_6 k_7 k_8 k_9 k_10 k_11 hv2 hSc2
    have k_0 := Hv2.out.e0
    have k_1 := Hv2.out.e1
    have k_2 := Hv2.out.e2
    have k_3 := Hv2.out.e3
    have k_4 := Hv2.out.e4
    have k_5 := Hv2.out.e5
    have k_6 := Hv2.out.e6
    have k_7 := Hv2.out.e7
    have k_8 := Hv2.out.e8
    have k_9 := Hv2.out.e9
    have k_10 := Hv2.out.e10
    have k_11 := Hv2.out.e11
    have k_f := Hv2.out.fz
    have k_l := Hv2.out.lt
    go_wp2_with fail
    first | refine bodyPost_end (v := .tuple #[]) (by simp [results, Tryz.results82]) rfl ?_ | refine bodyPost_ret (v := .tuple #[]) (by simp [results, Tryz.results82]) rfl ?_
    refine ⟨rfl, ?_⟩
    unfold csiS
    rw [if_neg (by decide), if_neg (by decide), if_neg (by decide), if_neg (by decide), if_neg (by decide), if_neg (by decide), if_neg (by decide), if_pos (by decide)]
    rw [if_neg hin]
    exact .mk Hv2.out HUv2.out
theorem csi77_c (lo b : Nat) (s : Scr) (g cc : Nat) (ah : Option Addr) (dh : Nat) (w : World) (kd : Int) (xs : List Int) (aa : Option Addr) (ca : Nat) (tx : ByteArray) (h : ScrAt lo b 0 s g cc ah dh w) (ok : ScrOK s) (hlo : lo ≤ w.heap.size) (ha : Sl intE 1 w aa xs) (hna : ∀ k ∈ blkOf aa, k ≠ b ∧ k ≠ g ∧ k ∉ blkOf ah) (hx8 : xs.length ≤ 8) (hxr : ∀ x ∈ xs, -1 ≤ x ∧ x ≤ 9999) :
    Calls Tryz.prog 82 #[.pointer (some ⟨b, 0, none⟩), .agg #[.int .i64 kd, .int .i64 77, .bool false, .slice aa xs.length ca, .string tx]] w fun e w' => e = .returned (.tuple #[]) ∧ ScrR lo b 0 (csiS s 77 xs) g ah w w' := by
  have HS := Lib.hid h
  have HOK := Lib.hid ok
  have HA := Lib.hid ha
  have HNA := Lib.hid hna
  have HXR := Lib.hid hxr
  have HX8 := Lib.hid hx8
  have hw1 := ok.w1
  have hw2 := ok.w2
  have hh1 := ok.h1
  have hh2 := ok.h2
  have hx := ok.hx
  have hy := ok.hy
  have hcur := ok.cur
  have hcn := ok.cn
  have hlt := h.lt
  obtain ⟨n, hn⟩ : ∃ n, arg1 xs 0 = n := ⟨_, rfl⟩
  obtain ⟨A0, hA0⟩ : ∃ a, argA xs 0 1 = a := ⟨_, rfl⟩
  have hAb : -1 ≤ A0 ∧ A0 ≤ 9999 := by rw [← hA0]; exact argA_bd HXR.out (by omega) (by omega)
  have hm : max 1 A0 = (n : Int) := by rw [← hn, ← hA0]; unfold arg1; omega
  have hn1 : 1 ≤ n := by omega
  have hn2 : n ≤ 9999 := by omega
  have HN := Lib.hid hn
  have HA0 := Lib.hid hA0
  obtain ⟨p, hp⟩ : ∃ p, s.y * s.w = p := ⟨_, rfl⟩
  obtain ⟨mx, hmx⟩ : ∃ m, min s.x (s.w - 1) = m := ⟨_, rfl⟩
  obtain ⟨cr, hcr⟩ : ∃ c, curS s = c := ⟨_, rfl⟩
  obtain ⟨pn, hpn⟩ : ∃ q, (s.y + 1) * s.w = q := ⟨_, rfl⟩
  obtain ⟨nn, hnn⟩ : ∃ q, s.w * s.h = q := ⟨_, rfl⟩
  have hpi : (s.y : Int) * (s.w : Int) = (p : Int) := by rw [← hp]; exact (Int.natCast_mul _ _).symm
  have hpni : ((s.y : Int) + 1) * (s.w : Int) = (pn : Int) := by rw [← hpn]; exact (Int.natCast_mul (s.y + 1) s.w).symm
  have hnni : (s.w : Int) * (s.h : Int) = (nn : Int) := by rw [← hnn]; exact (Int.natCast_mul _ _).symm
  have hmi : min (s.x : Int) ((s.w : Int) - 1) = (mx : Int) := by omega
  have hcri : (p : Int) + (mx : Int) = (cr : Int) := by rw [← hcr, ← hp, ← hmx]; unfold curS; omega
  have hn240 : nn ≤ 240 := by rw [← hnn]; exact Nat.mul_le_mul hw2 hh2
  rw [hcr, hp, hpn, hnn] at hcur
  rw [hnn] at hcn
  obtain ⟨hc1, hc2, hc3⟩ := hcur
  have HCN := Lib.hid hcn
  have HP := Lib.hid hp
  have HMX := Lib.hid hmx
  have HCR := Lib.hid hcr
  have HPN := Lib.hid hpn
  have HNN := Lib.hid hnn
  have hwA : IntKind.i64.wrap ((s.w : Int) - 1) = (s.w : Int) - 1 := IntWalk.i64_in _ ⟨by omega, by omega⟩
  have hwB : IntKind.i64.wrap (p : Int) = (p : Int) := IntWalk.i64_in _ ⟨by omega, by omega⟩
  have hwC : IntKind.i64.wrap (cr : Int) = (cr : Int) := IntWalk.i64_in _ ⟨by omega, by omega⟩
  have hwD : IntKind.i64.wrap (pn : Int) = (pn : Int) := IntWalk.i64_in _ ⟨by omega, by omega⟩
  have hwE : IntKind.i64.wrap (nn : Int) = (nn : Int) := IntWalk.i64_in _ ⟨by omega, by omega⟩
  have hwF : IntKind.i64.wrap ((s.y : Int) + 1) = (s.y : Int) + 1 := IntWalk.i64_in _ ⟨by omega, by omega⟩
  have hwG : IntKind.i64.wrap ((cr : Int) + 1) = (cr : Int) + 1 := IntWalk.i64_in _ ⟨by omega, by omega⟩
  obtain ⟨ln, hln⟩ : ∃ l, xs.length = l := ⟨_, rfl⟩
  have HLN := Lib.hid hln
  have HCALL : ∀ (i : Nat) (d : Int) (W : World), i ≤ 7 → Sl intE 1 W aa xs → Calls Tryz.prog 117 #[.agg #[.int .i64 kd, .int .i64 77, .bool false, .slice aa ln ca, .string tx], .int .i64 i, .int .i64 d] W fun e w' => e = .returned (.int .i64 (argA xs i d)) ∧ Below W.heap.size W w' := fun i d W hi hW => by
    rw [← hln]
    exact l03ArgG_c kd 77 false tx xs aa ca i d W hW hi hx8
  rw [hln]
  clear h ok ha hna hxr hx8 hn hA0 hp hmx hcr hpn hnn hcn hln
  go_enter Tryz.func82, Tryz.ntmps82
  go_wp2_with fail
  refine (HCALL 0 1 _ (by omega) (HA.out.alloc _)).mono ?_
  rintro e v0 ⟨rfl, hb0⟩
  rw [HA0.out]
  have HB0 : Hid (Below w.heap.size w v0) := Lib.hid (((Below.refl w.heap.size w).alloc (Nat.le_refl _) _).trans (hb0.mono (by simp)))
  have hz0 := HB0.out.size
  have q_l : w.heap.size < v0.heap.size := by have := hb0.size; simp at this; omega
  have q_0 : v0.cell? ⟨w.heap.size, 0, none⟩ = some (.int .i64 kd) := kC hb0 (by simp) (by simp [go_sem])
  have q_1 : v0.cell? ⟨w.heap.size, 1, none⟩ = some (.int .i64 77) := kC hb0 (by simp) (by simp [go_sem])
  have q_2 : v0.cell? ⟨w.heap.size, 2, none⟩ = some (.bool false) := kC hb0 (by simp) (by simp [go_sem])
  have q_3 : v0.cell? ⟨w.heap.size, 3, none⟩ = some (.slice aa ln ca) := kC hb0 (by simp) (by simp [go_sem])
  have q_4 : v0.cell? ⟨w.heap.size, 4, none⟩ = some (.string tx) := kC hb0 (by simp) (by simp [go_sem])
  clear hb0
  have q_b : ¬ w.heap.size = b := by omega
  have HA_nb : ∀ k ∈ blkOf aa, ¬ k = b := fun k hk => (HNA.out k hk).1
  have Hv0 := Lib.hid (HS.out.below HB0.out)
  have HA2 := Lib.hid (HA.out.keep HB0.out)
  have HUv0 : Hid (Upd b 0 (0 + 12) (fun k => k = g ∨ k ∈ blkOf ah) w v0) := Lib.hid (Upd.refl'.below HB0.out HS.out.lt)
  have HA2_nb := HA_nb
  have k_0 := Hv0.out.e0
  have k_1 := Hv0.out.e1
  have k_2 := Hv0.out.e2
  have k_3 := Hv0.out.e3
  have k_4 := Hv0.out.e4
  have k_5 := Hv0.out.e5
  have k_6 := Hv0.out.e6
  have k_7 := Hv0.out.e7
  have k_8 := Hv0.out.e8
  have k_9 := Hv0.out.e9
  have k_10 := Hv0.out.e10
  have k_11 := Hv0.out.e11
  have k_f := Hv0.out.fz
  have k_l := Hv0.out.lt
  go_upto_region 4 with fail
  have hSc1 := And.intro k_0 (And.intro k_2 k_3)
  refine wp_region_G (fun w' => w'.cell? ⟨b, 0, none⟩ = some (.int .i64 (s.w : Int)) ∧ w'.cell? ⟨b, 2, none⟩ = some (.int .i64 (s.x : Int)) ∧ w'.cell? ⟨b, 3, none⟩ = some (.int .i64 (s.y : Int))) (fun i => false) (by kernel_rfl) hSc1 ?_
  refine tW ?_ 0 rfl ?_ ?_; rotate_left
  · intro w' hSw; go_simp; try rfl
  try simp only [Act.put,j1,j2,j3,j4,j5,j6]
  refine tW ?_ 1 rfl ?_ ?_; rotate_left
  · intro w' hSw; go_simp; try rfl
  try simp only [Act.put,j1,j2,j3,j4,j5,j6]
  refine tW ?_ 2 rfl ?_ ?_; rotate_left
  · intro w' hSw; go_simp; try rfl
  try simp only [Act.put,j1,j2,j3,j4,j5,j6]
  refine tL ?_ 3 rfl hSc1 ?_ ?_; rotate_left
  · intro w' hSw; obtain ⟨s0, s1, s2⟩ := hSw; go_simp; try rfl
  try simp only [Act.put,j1,j2,j3,j4,j5,j6]
  refine tW ?_ 4 rfl ?_ ?_; rotate_left
  · intro w' hSw; go_simp; try rfl
  try simp only [Act.put,j1,j2,j3,j4,j5,j6]
  refine tW ?_ 5 rfl ?_ ?_; rotate_left
  · intro w' hSw; go_simp; try rfl
  try simp only [Act.put,j1,j2,j3,j4,j5,j6]
  refine tW ?_ 6 rfl ?_ ?_; rotate_left
  · intro w' hSw; go_simp; try rfl
  try simp only [Act.put,j1,j2,j3,j4,j5,j6]
  refine tL ?_ 7 rfl hSc1 ?_ ?_; rotate_left
  · intro w' hSw; obtain ⟨s0, s1, s2⟩ := hSw; go_simp; try rfl
  try simp only [Act.put,j1,j2,j3,j4,j5,j6]
  refine tW ?_ 8 rfl ?_ ?_; rotate_left
  · intro w' hSw; go_simp; try rfl
  try simp only [Act.put,j1,j2,j3,j4,j5,j6]
  refine tW ?_ 9 rfl ?_ ?_; rotate_left
  · intro w' hSw; go_simp; try rfl
  try simp only [Act.put,j1,j2,j3,j4,j5,j6]
  refine tW ?_ 10 rfl ?_ ?_; rotate_left
  · intro w' hSw; go_simp; try rfl
  try simp only [Act.put,j1,j2,j3,j4,j5,j6]
  refine tW ?_ 11 rfl ?_ ?_; rotate_left
  · intro w' hSw; go_simp; try rfl
  try simp only [Act.put,j1,j2,j3,j4,j5,j6]
  refine tL ?_ 12 rfl hSc1 ?_ ?_; rotate_left
  · intro w' hSw; obtain ⟨s0, s1, s2⟩ := hSw; go_simp; try rfl
  try simp only [Act.put,j1,j2,j3,j4,j5,j6]
  refine tW ?_ 13 rfl ?_ ?_; rotate_left
  · intro w' hSw; go_simp; try rfl
  try simp only [Act.put,j1,j2,j3,j4,j5,j6]
  refine tW ?_ 14 rfl ?_ ?_; rotate_left
  · intro w' hSw; go_simp; try rfl
  try simp only [Act.put,j1,j2,j3,j4,j5,j6]
  refine tW ?_ 15 rfl ?_ ?_; rotate_left
  · intro w' hSw; go_simp; try rfl
  try simp only [Act.put,j1,j2,j3,j4,j5,j6]
  refine tL ?_ 16 rfl hSc1 ?_ ?_; rotate_left
  · intro w' hSw; obtain ⟨s0, s1, s2⟩ := hSw; go_simp; try rfl
  try simp only [Act.put,j1,j2,j3,j4,j5,j6]
  refine tW ?_ 17 rfl ?_ ?_; rotate_left
  · intro w' hSw; go_simp; try rfl
  try simp only [Act.put,j1,j2,j3,j4,j5,j6]
  refine tW ?_ 18 rfl ?_ ?_; rotate_left
  · intro w' hSw; go_simp; try rfl
  try simp only [Act.put,j1,j2,j3,j4,j5,j6]
  refine tW ?_ 19 rfl ?_ ?_; rotate_left
  · intro w' hSw; go_simp; try rfl
  try simp only [Act.put,j1,j2,j3,j4,j5,j6]
  refine tW ?_ 20 rfl ?_ ?_; rotate_left
  · intro w' hSw; go_simp; try rfl
  try simp only [Act.put,j1,j2,j3,j4,j5,j6]
  refine wpAnyG_done (by kernel_rfl) ?_ _
  obtain ⟨v1, hv1⟩ : ∃ x, v0.drew = x := ⟨_, rfl⟩
  have HBv1 : Hid (Below v0.heap.size v0 v1) := Lib.hid (by rw [← hv1]; exact (Below.refl _ _).drew)
  rw [hv1]
  have hzv1 := HBv1.out.size
  have Hv1 := Lib.hid (Hv0.out.below HBv1.out)
  have HUv1 : Hid (Upd b 0 (0 + 12) (fun k => k = g ∨ k ∈ blkOf ah) w v1) := Lib.hid (HUv0.out.below HBv1.out Hv0.out.lt)
  have qn_0 := kC HBv1.out q_l q_0
  have qn_1 := kC HBv1.out q_l q_1
  have qn_2 := kC HBv1.out q_l q_2
  have qn_3 := kC HBv1.out q_l q_3
  have qn_4 := kC HBv1.out q_l q_4
  have qn_l := Nat.lt_of_lt_of_le q_l HBv1.out.size
  clear q_0 q_1 q_2 q_3 q_4 q_l
  have HA2n := Lib.hid (HA2.out.keep HBv1.out)
  clear k_f k_l k_0 k_1 k_2 k_3 k_4 k_5 k_6 k_7 k_8 k_9 k_10 k_11 hv1 hSc1
  have k_0 := Hv1.out.e0
  have k_1 := Hv1.out.e1
  have k_2 := Hv1.out.e2
  have k_3 := Hv1.out.e3
  have k_4 := Hv1.out.e4
  have k_5 := Hv1.out.e5
  have k_6 := Hv1.out.e6
  have k_7 := Hv1.out.e7
  have k_8 := Hv1.out.e8
  have k_9 := Hv1.out.e9
  have k_10 := Hv1.out.e10
  have k_11 := Hv1.out.e11
  have k_f := Hv1.out.fz
  have k_l := Hv1.out.lt
  by_cases hin : s.top ≤ s.y ∧ s.y ≤ s.bot
  · have HI : Hid (inB (s.y : Int) (s.top : Int) (s.bot : Int) = true) := Lib.hid (by simp only [inB, Bool.and_eq_true, decide_eq_true_eq]; omega)
    have htb := HOK.out.tb
    have hbh := HOK.out.bh
    obtain ⟨m, hmm⟩ : ∃ m, min n (s.bot - s.y + 1) = m := ⟨_, rfl⟩
    have hmi2 : min (n : Int) ((s.bot : Int) - (s.y : Int) + 1) = (m : Int) := by omega
    have hm10 : m ≤ 10 := by omega
    have HM := Lib.hid hmm
    have hwI : IntKind.i64.wrap ((s.bot : Int) - (s.y : Int)) = (s.bot : Int) - (s.y : Int) := IntWalk.i64_in _ ⟨by omega, by omega⟩
    have hwJ : IntKind.i64.wrap ((s.bot : Int) - (s.y : Int) + 1) = (s.bot : Int) - (s.y : Int) + 1 := IntWalk.i64_in _ ⟨by omega, by omega⟩
    have hwK : IntKind.i64.wrap (-(m : Int)) = -(m : Int) := IntWalk.i64_in _ ⟨by omega, by omega⟩
    have HIN := Lib.hid hin
    clear hin hmm
    go_upto_region 36 with fail
    have hSc2 := And.intro k_3 (And.intro k_5 k_6)
    refine wp_region_G (fun w' => w'.cell? ⟨b, 3, none⟩ = some (.int .i64 (s.y : Int)) ∧ w'.cell? ⟨b, 5, none⟩ = some (.int .i64 (s.top : Int)) ∧ w'.cell? ⟨b, 6, none⟩ = some (.int .i64 (s.bot : Int))) (fun i => false) (by kernel_rfl) hSc2 ?_
    refine tW ?_ 0 rfl ?_ ?_; rotate_left
    · intro w' hSw; go_simp; try rfl
    try simp only [Act.put,j1,j2,j3,j4,j5,j6]
    refine tW ?_ 1 rfl ?_ ?_; rotate_left
    · intro w' hSw; go_simp; try rfl
    try simp only [Act.put,j1,j2,j3,j4,j5,j6]
    refine tW ?_ 2 rfl ?_ ?_; rotate_left
    · intro w' hSw; go_simp; try rfl
    try simp only [Act.put,j1,j2,j3,j4,j5,j6]
    refine tL ?_ 3 rfl hSc2 ?_ ?_; rotate_left
    · intro w' hSw; obtain ⟨s0, s1, s2⟩ := hSw; go_simp; try rfl
    try simp only [Act.put,j1,j2,j3,j4,j5,j6]
    refine tW ?_ 4 rfl ?_ ?_; rotate_left
    · intro w' hSw; go_simp; try rfl
    try simp only [Act.put,j1,j2,j3,j4,j5,j6]
    refine tW ?_ 5 rfl ?_ ?_; rotate_left
    · intro w' hSw; go_simp; try rfl
    try simp only [Act.put,j1,j2,j3,j4,j5,j6]
    refine tW ?_ 6 rfl ?_ ?_; rotate_left
    · intro w' hSw; go_simp; try rfl
    try simp only [Act.put,j1,j2,j3,j4,j5,j6]
    refine tL ?_ 7 rfl hSc2 ?_ ?_; rotate_left
    · intro w' hSw; obtain ⟨s0, s1, s2⟩ := hSw; go_simp; try rfl
    try simp only [Act.put,j1,j2,j3,j4,j5,j6]
    refine tW ?_ 8 rfl ?_ ?_; rotate_left
    · intro w' hSw; go_simp; try rfl
    try simp only [Act.put,j1,j2,j3,j4,j5,j6]
    refine tW ?_ 9 rfl ?_ ?_; rotate_left
    · intro w' hSw; go_simp; try rfl
    try simp only [Act.put,j1,j2,j3,j4,j5,j6]
    refine tW ?_ 10 rfl ?_ ?_; rotate_left
    · intro w' hSw; go_simp; try rfl
    try simp only [Act.put,j1,j2,j3,j4,j5,j6]
    refine tL ?_ 11 rfl hSc2 ?_ ?_; rotate_left
    · intro w' hSw; obtain ⟨s0, s1, s2⟩ := hSw; go_simp; try rfl
    try simp only [Act.put,j1,j2,j3,j4,j5,j6]
    refine wpAnyG_one (i := 12) (by kernel_rfl) rfl hSc2 (fun K' hK => ?_)
    simp only [j1,j2,j3]
    go_simp
    refine (l01In_c _ _ _ _).mono ?_
    rw [HI.out]
    rintro e x1 ⟨rfl, rfl⟩
    refine hK.out _ _ (Or.inr hSc2) ?_
    clear hK K'
    try simp only [Act.put,j1,j2,j3,j4,j5,j6]
    refine wpAnyG_done (by kernel_rfl) ?_ _
    obtain ⟨v2, hv2⟩ : ∃ x, v1.drew = x := ⟨_, rfl⟩
    have HBv2 : Hid (Below v1.heap.size v1 v2) := Lib.hid (by rw [← hv2]; exact (Below.refl _ _).drew)
    rw [hv2]
    have hzv2 := HBv2.out.size
    have Hv2 := Lib.hid (Hv1.out.below HBv2.out)
    have HUv2 : Hid (Upd b 0 (0 + 12) (fun k => k = g ∨ k ∈ blkOf ah) w v2) := Lib.hid (HUv1.out.below HBv2.out Hv1.out.lt)
    have qnn_0 := kC HBv2.out qn_l qn_0
    have qnn_1 := kC HBv2.out qn_l qn_1
    have qnn_2 := kC HBv2.out qn_l qn_2
    have qnn_3 := kC HBv2.out qn_l qn_3
    have qnn_4 := kC HBv2.out qn_l qn_4
    have qnn_l := Nat.lt_of_lt_of_le qn_l HBv2.out.size
    clear qn_0 qn_1 qn_2 qn_3 qn_4 qn_l
    have HA2nn := Lib.hid (HA2n.out.keep HBv2.out)
    clear k_f k_l k_0 k_1 k_2 k_3 k_4 k_5 k_6 k_7 k_8 k_9 k_10 k_11 hv2 hSc2
    have k_0 := Hv2.out.e0
    have k_1 := Hv2.out.e1
    have k_2 := Hv2.out.e2
    have k_3 := Hv2.out.e3
    have k_4 := Hv2.out.e4
    have k_5 := Hv2.out.e5
    have k_6 := Hv2.out.e6
    have k_7 := Hv2.out.e7
    have k_8 := Hv2.out.e8
    have k_9 := Hv2.out.e9
    have k_10 := Hv2.out.e10
    have k_11 := Hv2.out.e11
    have k_f := Hv2.out.fz
    have k_l := Hv2.out.lt
    go_upto_region 37 with fail
    have hSc3 := And.intro k_3 k_6
    refine wp_region_G (fun w' => w'.cell? ⟨b, 3, none⟩ = some (.int .i64 (s.y : Int)) ∧ w'.cell? ⟨b, 6, none⟩ = some (.int .i64 (s.bot : Int))) (fun i => false) (by kernel_rfl) hSc3 ?_
    refine tW ?_ 0 rfl ?_ ?_; rotate_left
    · intro w' hSw; go_simp; try rfl
    try simp only [Act.put,j1,j2,j3,j4,j5,j6]
    refine tW ?_ 1 rfl ?_ ?_; rotate_left
    · intro w' hSw; go_simp; try rfl
    try simp only [Act.put,j1,j2,j3,j4,j5,j6]
    refine tW ?_ 2 rfl ?_ ?_; rotate_left
    · intro w' hSw; go_simp; try rfl
    try simp only [Act.put,j1,j2,j3,j4,j5,j6]
    refine tW ?_ 3 rfl ?_ ?_; rotate_left
    · intro w' hSw; go_simp; try rfl
    try simp only [Act.put,j1,j2,j3,j4,j5,j6]
    refine tL ?_ 4 rfl hSc3 ?_ ?_; rotate_left
    · intro w' hSw; obtain ⟨s0, s1⟩ := hSw; go_simp; try rfl
    try simp only [Act.put,j1,j2,j3,j4,j5,j6]
    refine tW ?_ 5 rfl ?_ ?_; rotate_left
    · intro w' hSw; go_simp; try rfl
    try simp only [Act.put,j1,j2,j3,j4,j5,j6]
    refine tW ?_ 6 rfl ?_ ?_; rotate_left
    · intro w' hSw; go_simp; try rfl
    try simp only [Act.put,j1,j2,j3,j4,j5,j6]
    refine tW ?_ 7 rfl ?_ ?_; rotate_left
    · intro w' hSw; go_simp; try rfl
    try simp only [Act.put,j1,j2,j3,j4,j5,j6]
    refine tL ?_ 8 rfl hSc3 ?_ ?_; rotate_left
    · intro w' hSw; obtain ⟨s0, s1⟩ := hSw; go_simp; try rfl
    try simp only [Act.put,j1,j2,j3,j4,j5,j6]
    refine tW ?_ 9 rfl ?_ ?_; rotate_left
    · intro w' hSw; go_simp; try rfl
    try simp only [Act.put,j1,j2,j3,j4,j5,j6]
    refine tW ?_ 10 rfl ?_ ?_; rotate_left
    · intro w' hSw; go_simp; try rfl
    try simp only [Act.put,j1,j2,j3,j4,j5,j6]
    refine tW ?_ 11 rfl ?_ ?_; rotate_left
    · intro w' hSw; go_simp; try rfl
    try simp only [Act.put,j1,j2,j3,j4,j5,j6]
    refine tW ?_ 12 rfl ?_ ?_; rotate_left
    · intro w' hSw; go_simp; try rfl
    try simp only [Act.put,j1,j2,j3,j4,j5,j6]
    refine wpAnyG_done (by kernel_rfl) ?_ _
    obtain ⟨v3, hv3⟩ : ∃ x, v2.drew = x := ⟨_, rfl⟩
    have HBv3 : Hid (Below v2.heap.size v2 v3) := Lib.hid (by rw [← hv3]; exact (Below.refl _ _).drew)
    rw [hv3]
    have hzv3 := HBv3.out.size
    have Hv3 := Lib.hid (Hv2.out.below HBv3.out)
    have HUv3 : Hid (Upd b 0 (0 + 12) (fun k => k = g ∨ k ∈ blkOf ah) w v3) := Lib.hid (HUv2.out.below HBv3.out Hv2.out.lt)
    have qnnn_0 := kC HBv3.out qnn_l qnn_0
    have qnnn_1 := kC HBv3.out qnn_l qnn_1
    have qnnn_2 := kC HBv3.out qnn_l qnn_2
    have qnnn_3 := kC HBv3.out qnn_l qnn_3
    have qnnn_4 := kC HBv3.out qnn_l qnn_4
    have qnnn_l := Nat.lt_of_lt_of_le qnn_l HBv3.out.size
    clear qnn_0 qnn_1 qnn_2 qnn_3 qnn_4 qnn_l
    have HA2nnn := Lib.hid (HA2nn.out.keep HBv3.out)
    clear k_f k_l k_0 k_1 k_2 k_3 k_4 k_5 k_6 k_7 k_8 k_9 k_10 k_11 hv3 hSc3
    have k_0 := Hv3.out.e0
    have k_1 := Hv3.out.e1
    have k_2 := Hv3.out.e2
    have k_3 := Hv3.out.e3
    have k_4 := Hv3.out.e4
    have k_5 := Hv3.out.e5
    have k_6 := Hv3.out.e6
    have k_7 := Hv3.out.e7
    have k_8 := Hv3.out.e8
    have k_9 := Hv3.out.e9
    have k_10 := Hv3.out.e10
    have k_11 := Hv3.out.e11
    have k_f := Hv3.out.fz
    have k_l := Hv3.out.lt
    go_upto_region 40 with fail
    have hSc4 := And.intro k_3 k_6
    refine wp_region_G (fun w' => w'.cell? ⟨b, 3, none⟩ = some (.int .i64 (s.y : Int)) ∧ w'.cell? ⟨b, 6, none⟩ = some (.int .i64 (s.bot : Int))) (fun i => false) (by kernel_rfl) hSc4 ?_
    refine tW ?_ 0 rfl ?_ ?_; rotate_left
    · intro w' hSw; go_simp; try rfl
    try simp only [Act.put,j1,j2,j3,j4,j5,j6]
    refine tW ?_ 1 rfl ?_ ?_; rotate_left
    · intro w' hSw; go_simp; try rfl
    try simp only [Act.put,j1,j2,j3,j4,j5,j6]
    refine tW ?_ 2 rfl ?_ ?_; rotate_left
    · intro w' hSw; go_simp; try rfl
    try simp only [Act.put,j1,j2,j3,j4,j5,j6]
    refine tW ?_ 3 rfl ?_ ?_; rotate_left
    · intro w' hSw; go_simp; try rfl
    try simp only [Act.put,j1,j2,j3,j4,j5,j6]
    refine tL ?_ 4 rfl hSc4 ?_ ?_; rotate_left
    · intro w' hSw; obtain ⟨s0, s1⟩ := hSw; go_simp; try rfl
    try simp only [Act.put,j1,j2,j3,j4,j5,j6]
    refine tW ?_ 5 rfl ?_ ?_; rotate_left
    · intro w' hSw; go_simp; try rfl
    try simp only [Act.put,j1,j2,j3,j4,j5,j6]
    refine tW ?_ 6 rfl ?_ ?_; rotate_left
    · intro w' hSw; go_simp; try rfl
    try simp only [Act.put,j1,j2,j3,j4,j5,j6]
    refine tW ?_ 7 rfl ?_ ?_; rotate_left
    · intro w' hSw; go_simp; try rfl
    try simp only [Act.put,j1,j2,j3,j4,j5,j6]
    refine tL ?_ 8 rfl hSc4 ?_ ?_; rotate_left
    · intro w' hSw; obtain ⟨s0, s1⟩ := hSw; go_simp; try rfl
    try simp only [Act.put,j1,j2,j3,j4,j5,j6]
    refine tW ?_ 9 rfl ?_ ?_; rotate_left
    · intro w' hSw; go_simp; try rfl
    try simp only [Act.put,j1,j2,j3,j4,j5,j6]
    refine wpAnyG_one (i := 10) (by kernel_rfl) rfl hSc4 (fun K' hK => ?_)
    simp only [j1,j2,j3]
    go_simp
    refine (withinU_c lo b s g cc ah dh _ s.y s.bot m Hv3.out.drew HOK.out HIN.out.2 HOK.out.bh hm10 (by show lo ≤ v3.heap.size; omega)).mono ?_
    rintro e x1 ⟨rfl, g1, cc1, ah1, dh1, ha, hu, hg, hh⟩
    have e1 := scU_same false s.y s.bot s m
    have HX := Lib.hid ha
    have HR : Hid (Upd b 0 (0 + 12) (fun k => k = g ∨ k ∈ blkOf ah) w x1 ∧ (g1 = g ∨ w.heap.size ≤ g1) ∧ ∀ i ∈ blkOf ah1, i ∈ blkOf ah ∨ w.heap.size ≤ i) := Lib.hid (by
      obtain ⟨g2, c2, a2, d2, _⟩ : ∃ g2 c2 a2 d2, ScrAt lo b 0 (scU false s.y s.bot m s) g2 c2 a2 d2 x1 := ⟨_, _, _, _, ha⟩
      refine ⟨HUv3.out.drew.transN hu (fun i hi => .inl hi), hg.imp id (fun h => by have : v3.heap.size ≤ g1 := h; omega), fun i hi => (hh i hi).imp id (fun h => by have : v3.heap.size ≤ i := h; omega)⟩)
    have hSx : x1.cell? ⟨b, 3, none⟩ = some (.int .i64 (s.y : Int)) ∧ x1.cell? ⟨b, 6, none⟩ = some (.int .i64 (s.bot : Int)) := ⟨by have := ha.c3; rw [e1.2.2.2.1] at this; exact this, by have := ha.c6; rw [e1.2.2.2.2.2.2.1] at this; exact this⟩
    have z_2 : x1.cell? ⟨b, 2, none⟩ = some (.int .i64 s.x) := by have := ha.c2; rw [e1.2.2.1] at this; exact this
    have z_f := ha.fz
    have z_l := ha.lt
    clear ha hu hg hh
    refine hK.out _ _ (Or.inr hSx) ?_
    clear hK K'
    try simp only [Act.put,j1,j2,j3,j4,j5,j6]
    refine wpAnyG_done (by kernel_rfl) ?_ _
    go_wp2_with fail
    first | refine bodyPost_end (v := .tuple #[]) (by simp [results, Tryz.results82]) rfl ?_ | refine bodyPost_ret (v := .tuple #[]) (by simp [results, Tryz.results82]) rfl ?_
    refine ⟨rfl, ?_⟩
    unfold csiS
    rw [if_neg (by decide), if_neg (by decide), if_neg (by decide), if_neg (by decide), if_neg (by decide), if_neg (by decide), if_neg (by decide), if_neg (by decide), if_pos (by decide)]
    rw [if_pos HIN.out, HN.out, HM.out]
    exact ScrR.trans HX.out HR.out.1 HR.out.2.1 HR.out.2.2 (.mk (HX.out.setv2 0 rfl) (Upd.refl'.set2 _))
  · have HI : Hid (inB (s.y : Int) (s.top : Int) (s.bot : Int) = false) := Lib.hid (by simp only [inB, Bool.and_eq_false_iff, decide_eq_false_iff_not]; omega)
    go_upto_region 36 with fail
    have hSc2 := And.intro k_3 (And.intro k_5 k_6)
    refine wp_region_G (fun w' => w'.cell? ⟨b, 3, none⟩ = some (.int .i64 (s.y : Int)) ∧ w'.cell? ⟨b, 5, none⟩ = some (.int .i64 (s.top : Int)) ∧ w'.cell? ⟨b, 6, none⟩ = some (.int .i64 (s.bot : Int))) (fun i => false) (by kernel_rfl) hSc2 ?_
    refine tW ?_ 0 rfl ?_ ?_; rotate_left
    · intro w' hSw; go_simp; try rfl
    try simp only [Act.put,j1,j2,j3,j4,j5,j6]
    refine tW ?_ 1 rfl ?_ ?_; rotate_left
    · intro w' hSw; go_simp; try rfl
    try simp only [Act.put,j1,j2,j3,j4,j5,j6]
    refine tW ?_ 2 rfl ?_ ?_; rotate_left
    · intro w' hSw; go_simp; try rfl
    try simp only [Act.put,j1,j2,j3,j4,j5,j6]
    refine tL ?_ 3 rfl hSc2 ?_ ?_; rotate_left
    · intro w' hSw; obtain ⟨s0, s1, s2⟩ := hSw; go_simp; try rfl
    try simp only [Act.put,j1,j2,j3,j4,j5,j6]
    refine tW ?_ 4 rfl ?_ ?_; rotate_left
    · intro w' hSw; go_simp; try rfl
    try simp only [Act.put,j1,j2,j3,j4,j5,j6]
    refine tW ?_ 5 rfl ?_ ?_; rotate_left
    · intro w' hSw; go_simp; try rfl
    try simp only [Act.put,j1,j2,j3,j4,j5,j6]
    refine tW ?_ 6 rfl ?_ ?_; rotate_left
    · intro w' hSw; go_simp; try rfl
    try simp only [Act.put,j1,j2,j3,j4,j5,j6]
    refine tL ?_ 7 rfl hSc2 ?_ ?_; rotate_left
    · intro w' hSw; obtain ⟨s0, s1, s2⟩ := hSw; go_simp; try rfl
    try simp only [Act.put,j1,j2,j3,j4,j5,j6]
    refine tW ?_ 8 rfl ?_ ?_; rotate_left
    · intro w' hSw; go_simp; try rfl
    try simp only [Act.put,j1,j2,j3,j4,j5,j6]
    refine tW ?_ 9 rfl ?_ ?_; rotate_left
    · intro w' hSw; go_simp; try rfl
    try simp only [Act.put,j1,j2,j3,j4,j5,j6]
    refine tW ?_ 10 rfl ?_ ?_; rotate_left
    · intro w' hSw; go_simp; try rfl
    try simp only [Act.put,j1,j2,j3,j4,j5,j6]
    refine tL ?_ 11 rfl hSc2 ?_ ?_; rotate_left
    · intro w' hSw; obtain ⟨s0, s1, s2⟩ := hSw; go_simp; try rfl
    try simp only [Act.put,j1,j2,j3,j4,j5,j6]
    refine wpAnyG_one (i := 12) (by kernel_rfl) rfl hSc2 (fun K' hK => ?_)
    simp only [j1,j2,j3]
    go_simp
    refine (l01In_c _ _ _ _).mono ?_
    rw [HI.out]
    rintro e x1 ⟨rfl, rfl⟩
    refine hK.out _ _ (Or.inr hSc2) ?_
    clear hK K'
    try simp only [Act.put,j1,j2,j3,j4,j5,j6]
    refine wpAnyG_done (by kernel_rfl) ?_ _
    obtain ⟨v2, hv2⟩ : ∃ x, v1.drew = x := ⟨_, rfl⟩
    have HBv2 : Hid (Below v1.heap.size v1 v2) := Lib.hid (by rw [← hv2]; exact (Below.refl _ _).drew)
    rw [hv2]
    have hzv2 := HBv2.out.size
    have Hv2 := Lib.hid (Hv1.out.below HBv2.out)
    have HUv2 : Hid (Upd b 0 (0 + 12) (fun k => k = g ∨ k ∈ blkOf ah) w v2) := Lib.hid (HUv1.out.below HBv2.out Hv1.out.lt)
    have qnn_0 := kC HBv2.out qn_l qn_0
    have qnn_1 := kC HBv2.out qn_l qn_1
    have qnn_2 := kC HBv2.out qn_l qn_2
    have qnn_3 := kC HBv2.out qn_l qn_3
    have qnn_4 := kC HBv2.out qn_l qn_4
    have qnn_l := Nat.lt_of_lt_of_le qn_l HBv2.out.size
    clear qn_0 qn_1 qn_2 qn_3 qn_4 qn_l
    have HA2nn := Lib.hid (HA2n.out.keep HBv2.out)
    clear k_f k_l k_0 k_1 k_2 k_3 k_4 k_5 k_6 k_7 k_8 k_9 k_10 k_11 hv2 hSc2
    have k_0 := Hv2.out.e0
    have k_1 := Hv2.out.e1
    have k_2 := Hv2.out.e2
    have k_3 := Hv2.out.e3
    have k_4 := Hv2.out.e4
    have k_5 := Hv2.out.e5
    have k_6 := Hv2.out.e6
    have k_7 := Hv2.out.e7
    have k_8 := Hv2.out.e8
    have k_9 := Hv2.out.e9
    have k_10 := Hv2.out.e10
    have k_11 := Hv2.out.e11
    have k_f := Hv2.out.fz
    have k_l := Hv2.out.lt
    go_wp2_with fail
    first | refine bodyPost_end (v := .tuple #[]) (by simp [results, Tryz.results82]) rfl ?_ | refine bodyPost_ret (v := .tuple #[]) (by simp [results, Tryz.results82]) rfl ?_
    refine ⟨rfl, ?_⟩
    unfold csiS
    rw [if_neg (by decide), if_neg (by decide), if_neg (by decide), if_neg (by decide), if_neg (by decide), if_neg (by decide), if_neg (by decide), if_neg (by decide), if_pos (by decide)]
    rw [if_neg hin]
    exact .mk Hv2.out HUv2.out
theorem csi83_c (lo b : Nat) (s : Scr) (g cc : Nat) (ah : Option Addr) (dh : Nat) (w : World) (kd : Int) (xs : List Int) (aa : Option Addr) (ca : Nat) (tx : ByteArray) (h : ScrAt lo b 0 s g cc ah dh w) (ok : ScrOK s) (hlo : lo ≤ w.heap.size) (ha : Sl intE 1 w aa xs) (hna : ∀ k ∈ blkOf aa, k ≠ b ∧ k ≠ g ∧ k ∉ blkOf ah) (hx8 : xs.length ≤ 8) (hxr : ∀ x ∈ xs, -1 ≤ x ∧ x ≤ 9999) :
    Calls Tryz.prog 82 #[.pointer (some ⟨b, 0, none⟩), .agg #[.int .i64 kd, .int .i64 83, .bool false, .slice aa xs.length ca, .string tx]] w fun e w' => e = .returned (.tuple #[]) ∧ ScrR lo b 0 (csiS s 83 xs) g ah w w' := by
  have HS := Lib.hid h
  have HOK := Lib.hid ok
  have HA := Lib.hid ha
  have HNA := Lib.hid hna
  have HXR := Lib.hid hxr
  have HX8 := Lib.hid hx8
  have hw1 := ok.w1
  have hw2 := ok.w2
  have hh1 := ok.h1
  have hh2 := ok.h2
  have hx := ok.hx
  have hy := ok.hy
  have hcur := ok.cur
  have hcn := ok.cn
  have hlt := h.lt
  obtain ⟨n, hn⟩ : ∃ n, arg1 xs 0 = n := ⟨_, rfl⟩
  obtain ⟨A0, hA0⟩ : ∃ a, argA xs 0 1 = a := ⟨_, rfl⟩
  have hAb : -1 ≤ A0 ∧ A0 ≤ 9999 := by rw [← hA0]; exact argA_bd HXR.out (by omega) (by omega)
  have hm : max 1 A0 = (n : Int) := by rw [← hn, ← hA0]; unfold arg1; omega
  have hn1 : 1 ≤ n := by omega
  have hn2 : n ≤ 9999 := by omega
  have HN := Lib.hid hn
  have HA0 := Lib.hid hA0
  obtain ⟨p, hp⟩ : ∃ p, s.y * s.w = p := ⟨_, rfl⟩
  obtain ⟨mx, hmx⟩ : ∃ m, min s.x (s.w - 1) = m := ⟨_, rfl⟩
  obtain ⟨cr, hcr⟩ : ∃ c, curS s = c := ⟨_, rfl⟩
  obtain ⟨pn, hpn⟩ : ∃ q, (s.y + 1) * s.w = q := ⟨_, rfl⟩
  obtain ⟨nn, hnn⟩ : ∃ q, s.w * s.h = q := ⟨_, rfl⟩
  have hpi : (s.y : Int) * (s.w : Int) = (p : Int) := by rw [← hp]; exact (Int.natCast_mul _ _).symm
  have hpni : ((s.y : Int) + 1) * (s.w : Int) = (pn : Int) := by rw [← hpn]; exact (Int.natCast_mul (s.y + 1) s.w).symm
  have hnni : (s.w : Int) * (s.h : Int) = (nn : Int) := by rw [← hnn]; exact (Int.natCast_mul _ _).symm
  have hmi : min (s.x : Int) ((s.w : Int) - 1) = (mx : Int) := by omega
  have hcri : (p : Int) + (mx : Int) = (cr : Int) := by rw [← hcr, ← hp, ← hmx]; unfold curS; omega
  have hn240 : nn ≤ 240 := by rw [← hnn]; exact Nat.mul_le_mul hw2 hh2
  rw [hcr, hp, hpn, hnn] at hcur
  rw [hnn] at hcn
  obtain ⟨hc1, hc2, hc3⟩ := hcur
  have HCN := Lib.hid hcn
  have HP := Lib.hid hp
  have HMX := Lib.hid hmx
  have HCR := Lib.hid hcr
  have HPN := Lib.hid hpn
  have HNN := Lib.hid hnn
  have hwA : IntKind.i64.wrap ((s.w : Int) - 1) = (s.w : Int) - 1 := IntWalk.i64_in _ ⟨by omega, by omega⟩
  have hwB : IntKind.i64.wrap (p : Int) = (p : Int) := IntWalk.i64_in _ ⟨by omega, by omega⟩
  have hwC : IntKind.i64.wrap (cr : Int) = (cr : Int) := IntWalk.i64_in _ ⟨by omega, by omega⟩
  have hwD : IntKind.i64.wrap (pn : Int) = (pn : Int) := IntWalk.i64_in _ ⟨by omega, by omega⟩
  have hwE : IntKind.i64.wrap (nn : Int) = (nn : Int) := IntWalk.i64_in _ ⟨by omega, by omega⟩
  have hwF : IntKind.i64.wrap ((s.y : Int) + 1) = (s.y : Int) + 1 := IntWalk.i64_in _ ⟨by omega, by omega⟩
  have hwG : IntKind.i64.wrap ((cr : Int) + 1) = (cr : Int) + 1 := IntWalk.i64_in _ ⟨by omega, by omega⟩
  obtain ⟨ln, hln⟩ : ∃ l, xs.length = l := ⟨_, rfl⟩
  have HLN := Lib.hid hln
  have HCALL : ∀ (i : Nat) (d : Int) (W : World), i ≤ 7 → Sl intE 1 W aa xs → Calls Tryz.prog 117 #[.agg #[.int .i64 kd, .int .i64 83, .bool false, .slice aa ln ca, .string tx], .int .i64 i, .int .i64 d] W fun e w' => e = .returned (.int .i64 (argA xs i d)) ∧ Below W.heap.size W w' := fun i d W hi hW => by
    rw [← hln]
    exact l03ArgG_c kd 83 false tx xs aa ca i d W hW hi hx8
  rw [hln]
  clear h ok ha hna hxr hx8 hn hA0 hp hmx hcr hpn hnn hcn hln
  go_enter Tryz.func82, Tryz.ntmps82
  go_wp2_with fail
  refine (HCALL 0 1 _ (by omega) (HA.out.alloc _)).mono ?_
  rintro e v0 ⟨rfl, hb0⟩
  rw [HA0.out]
  have HB0 : Hid (Below w.heap.size w v0) := Lib.hid (((Below.refl w.heap.size w).alloc (Nat.le_refl _) _).trans (hb0.mono (by simp)))
  have hz0 := HB0.out.size
  have q_l : w.heap.size < v0.heap.size := by have := hb0.size; simp at this; omega
  have q_0 : v0.cell? ⟨w.heap.size, 0, none⟩ = some (.int .i64 kd) := kC hb0 (by simp) (by simp [go_sem])
  have q_1 : v0.cell? ⟨w.heap.size, 1, none⟩ = some (.int .i64 83) := kC hb0 (by simp) (by simp [go_sem])
  have q_2 : v0.cell? ⟨w.heap.size, 2, none⟩ = some (.bool false) := kC hb0 (by simp) (by simp [go_sem])
  have q_3 : v0.cell? ⟨w.heap.size, 3, none⟩ = some (.slice aa ln ca) := kC hb0 (by simp) (by simp [go_sem])
  have q_4 : v0.cell? ⟨w.heap.size, 4, none⟩ = some (.string tx) := kC hb0 (by simp) (by simp [go_sem])
  clear hb0
  have q_b : ¬ w.heap.size = b := by omega
  have HA_nb : ∀ k ∈ blkOf aa, ¬ k = b := fun k hk => (HNA.out k hk).1
  have Hv0 := Lib.hid (HS.out.below HB0.out)
  have HA2 := Lib.hid (HA.out.keep HB0.out)
  have HUv0 : Hid (Upd b 0 (0 + 12) (fun k => k = g ∨ k ∈ blkOf ah) w v0) := Lib.hid (Upd.refl'.below HB0.out HS.out.lt)
  have HA2_nb := HA_nb
  have k_0 := Hv0.out.e0
  have k_1 := Hv0.out.e1
  have k_2 := Hv0.out.e2
  have k_3 := Hv0.out.e3
  have k_4 := Hv0.out.e4
  have k_5 := Hv0.out.e5
  have k_6 := Hv0.out.e6
  have k_7 := Hv0.out.e7
  have k_8 := Hv0.out.e8
  have k_9 := Hv0.out.e9
  have k_10 := Hv0.out.e10
  have k_11 := Hv0.out.e11
  have k_f := Hv0.out.fz
  have k_l := Hv0.out.lt
  go_upto_region 4 with fail
  have hSc1 := And.intro k_0 (And.intro k_2 k_3)
  refine wp_region_G (fun w' => w'.cell? ⟨b, 0, none⟩ = some (.int .i64 (s.w : Int)) ∧ w'.cell? ⟨b, 2, none⟩ = some (.int .i64 (s.x : Int)) ∧ w'.cell? ⟨b, 3, none⟩ = some (.int .i64 (s.y : Int))) (fun i => false) (by kernel_rfl) hSc1 ?_
  refine tW ?_ 0 rfl ?_ ?_; rotate_left
  · intro w' hSw; go_simp; try rfl
  try simp only [Act.put,j1,j2,j3,j4,j5,j6]
  refine tW ?_ 1 rfl ?_ ?_; rotate_left
  · intro w' hSw; go_simp; try rfl
  try simp only [Act.put,j1,j2,j3,j4,j5,j6]
  refine tW ?_ 2 rfl ?_ ?_; rotate_left
  · intro w' hSw; go_simp; try rfl
  try simp only [Act.put,j1,j2,j3,j4,j5,j6]
  refine tL ?_ 3 rfl hSc1 ?_ ?_; rotate_left
  · intro w' hSw; obtain ⟨s0, s1, s2⟩ := hSw; go_simp; try rfl
  try simp only [Act.put,j1,j2,j3,j4,j5,j6]
  refine tW ?_ 4 rfl ?_ ?_; rotate_left
  · intro w' hSw; go_simp; try rfl
  try simp only [Act.put,j1,j2,j3,j4,j5,j6]
  refine tW ?_ 5 rfl ?_ ?_; rotate_left
  · intro w' hSw; go_simp; try rfl
  try simp only [Act.put,j1,j2,j3,j4,j5,j6]
  refine tW ?_ 6 rfl ?_ ?_; rotate_left
  · intro w' hSw; go_simp; try rfl
  try simp only [Act.put,j1,j2,j3,j4,j5,j6]
  refine tL ?_ 7 rfl hSc1 ?_ ?_; rotate_left
  · intro w' hSw; obtain ⟨s0, s1, s2⟩ := hSw; go_simp; try rfl
  try simp only [Act.put,j1,j2,j3,j4,j5,j6]
  refine tW ?_ 8 rfl ?_ ?_; rotate_left
  · intro w' hSw; go_simp; try rfl
  try simp only [Act.put,j1,j2,j3,j4,j5,j6]
  refine tW ?_ 9 rfl ?_ ?_; rotate_left
  · intro w' hSw; go_simp; try rfl
  try simp only [Act.put,j1,j2,j3,j4,j5,j6]
  refine tW ?_ 10 rfl ?_ ?_; rotate_left
  · intro w' hSw; go_simp; try rfl
  try simp only [Act.put,j1,j2,j3,j4,j5,j6]
  refine tW ?_ 11 rfl ?_ ?_; rotate_left
  · intro w' hSw; go_simp; try rfl
  try simp only [Act.put,j1,j2,j3,j4,j5,j6]
  refine tL ?_ 12 rfl hSc1 ?_ ?_; rotate_left
  · intro w' hSw; obtain ⟨s0, s1, s2⟩ := hSw; go_simp; try rfl
  try simp only [Act.put,j1,j2,j3,j4,j5,j6]
  refine tW ?_ 13 rfl ?_ ?_; rotate_left
  · intro w' hSw; go_simp; try rfl
  try simp only [Act.put,j1,j2,j3,j4,j5,j6]
  refine tW ?_ 14 rfl ?_ ?_; rotate_left
  · intro w' hSw; go_simp; try rfl
  try simp only [Act.put,j1,j2,j3,j4,j5,j6]
  refine tW ?_ 15 rfl ?_ ?_; rotate_left
  · intro w' hSw; go_simp; try rfl
  try simp only [Act.put,j1,j2,j3,j4,j5,j6]
  refine tL ?_ 16 rfl hSc1 ?_ ?_; rotate_left
  · intro w' hSw; obtain ⟨s0, s1, s2⟩ := hSw; go_simp; try rfl
  try simp only [Act.put,j1,j2,j3,j4,j5,j6]
  refine tW ?_ 17 rfl ?_ ?_; rotate_left
  · intro w' hSw; go_simp; try rfl
  try simp only [Act.put,j1,j2,j3,j4,j5,j6]
  refine tW ?_ 18 rfl ?_ ?_; rotate_left
  · intro w' hSw; go_simp; try rfl
  try simp only [Act.put,j1,j2,j3,j4,j5,j6]
  refine tW ?_ 19 rfl ?_ ?_; rotate_left
  · intro w' hSw; go_simp; try rfl
  try simp only [Act.put,j1,j2,j3,j4,j5,j6]
  refine tW ?_ 20 rfl ?_ ?_; rotate_left
  · intro w' hSw; go_simp; try rfl
  try simp only [Act.put,j1,j2,j3,j4,j5,j6]
  refine wpAnyG_done (by kernel_rfl) ?_ _
  obtain ⟨v1, hv1⟩ : ∃ x, v0.drew = x := ⟨_, rfl⟩
  have HBv1 : Hid (Below v0.heap.size v0 v1) := Lib.hid (by rw [← hv1]; exact (Below.refl _ _).drew)
  rw [hv1]
  have hzv1 := HBv1.out.size
  have Hv1 := Lib.hid (Hv0.out.below HBv1.out)
  have HUv1 : Hid (Upd b 0 (0 + 12) (fun k => k = g ∨ k ∈ blkOf ah) w v1) := Lib.hid (HUv0.out.below HBv1.out Hv0.out.lt)
  have qn_0 := kC HBv1.out q_l q_0
  have qn_1 := kC HBv1.out q_l q_1
  have qn_2 := kC HBv1.out q_l q_2
  have qn_3 := kC HBv1.out q_l q_3
  have qn_4 := kC HBv1.out q_l q_4
  have qn_l := Nat.lt_of_lt_of_le q_l HBv1.out.size
  clear q_0 q_1 q_2 q_3 q_4 q_l
  have HA2n := Lib.hid (HA2.out.keep HBv1.out)
  clear k_f k_l k_0 k_1 k_2 k_3 k_4 k_5 k_6 k_7 k_8 k_9 k_10 k_11 hv1 hSc1
  have k_0 := Hv1.out.e0
  have k_1 := Hv1.out.e1
  have k_2 := Hv1.out.e2
  have k_3 := Hv1.out.e3
  have k_4 := Hv1.out.e4
  have k_5 := Hv1.out.e5
  have k_6 := Hv1.out.e6
  have k_7 := Hv1.out.e7
  have k_8 := Hv1.out.e8
  have k_9 := Hv1.out.e9
  have k_10 := Hv1.out.e10
  have k_11 := Hv1.out.e11
  have k_f := Hv1.out.fz
  have k_l := Hv1.out.lt
  have htb := HOK.out.tb
  have hbh := HOK.out.bh
  obtain ⟨m, hmm⟩ : ∃ m, min n (s.bot - s.top + 1) = m := ⟨_, rfl⟩
  have hmi2 : min (n : Int) ((s.bot : Int) - (s.top : Int) + 1) = (m : Int) := by omega
  have hm10 : m ≤ 10 := by omega
  have HM := Lib.hid hmm
  have hwI : IntKind.i64.wrap ((s.bot : Int) - (s.top : Int)) = (s.bot : Int) - (s.top : Int) := IntWalk.i64_in _ ⟨by omega, by omega⟩
  have hwJ : IntKind.i64.wrap ((s.bot : Int) - (s.top : Int) + 1) = (s.bot : Int) - (s.top : Int) + 1 := IntWalk.i64_in _ ⟨by omega, by omega⟩
  have hwK : IntKind.i64.wrap (-(m : Int)) = -(m : Int) := IntWalk.i64_in _ ⟨by omega, by omega⟩
  clear hmm
  go_upto_region 43 with fail
  have hSc2 := And.intro k_5 k_6
  refine wp_region_G (fun w' => w'.cell? ⟨b, 5, none⟩ = some (.int .i64 (s.top : Int)) ∧ w'.cell? ⟨b, 6, none⟩ = some (.int .i64 (s.bot : Int))) (fun i => false) (by kernel_rfl) hSc2 ?_
  refine tW ?_ 0 rfl ?_ ?_; rotate_left
  · intro w' hSw; go_simp; try rfl
  try simp only [Act.put,j1,j2,j3,j4,j5,j6]
  refine tW ?_ 1 rfl ?_ ?_; rotate_left
  · intro w' hSw; go_simp; try rfl
  try simp only [Act.put,j1,j2,j3,j4,j5,j6]
  refine tW ?_ 2 rfl ?_ ?_; rotate_left
  · intro w' hSw; go_simp; try rfl
  try simp only [Act.put,j1,j2,j3,j4,j5,j6]
  refine tW ?_ 3 rfl ?_ ?_; rotate_left
  · intro w' hSw; go_simp; try rfl
  try simp only [Act.put,j1,j2,j3,j4,j5,j6]
  refine tL ?_ 4 rfl hSc2 ?_ ?_; rotate_left
  · intro w' hSw; obtain ⟨s0, s1⟩ := hSw; go_simp; try rfl
  try simp only [Act.put,j1,j2,j3,j4,j5,j6]
  refine tW ?_ 5 rfl ?_ ?_; rotate_left
  · intro w' hSw; go_simp; try rfl
  try simp only [Act.put,j1,j2,j3,j4,j5,j6]
  refine tW ?_ 6 rfl ?_ ?_; rotate_left
  · intro w' hSw; go_simp; try rfl
  try simp only [Act.put,j1,j2,j3,j4,j5,j6]
  refine tW ?_ 7 rfl ?_ ?_; rotate_left
  · intro w' hSw; go_simp; try rfl
  try simp only [Act.put,j1,j2,j3,j4,j5,j6]
  refine tL ?_ 8 rfl hSc2 ?_ ?_; rotate_left
  · intro w' hSw; obtain ⟨s0, s1⟩ := hSw; go_simp; try rfl
  try simp only [Act.put,j1,j2,j3,j4,j5,j6]
  refine tW ?_ 9 rfl ?_ ?_; rotate_left
  · intro w' hSw; go_simp; try rfl
  try simp only [Act.put,j1,j2,j3,j4,j5,j6]
  refine tW ?_ 10 rfl ?_ ?_; rotate_left
  · intro w' hSw; go_simp; try rfl
  try simp only [Act.put,j1,j2,j3,j4,j5,j6]
  refine tW ?_ 11 rfl ?_ ?_; rotate_left
  · intro w' hSw; go_simp; try rfl
  try simp only [Act.put,j1,j2,j3,j4,j5,j6]
  refine tW ?_ 12 rfl ?_ ?_; rotate_left
  · intro w' hSw; go_simp; try rfl
  try simp only [Act.put,j1,j2,j3,j4,j5,j6]
  refine tL ?_ 13 rfl hSc2 ?_ ?_; rotate_left
  · intro w' hSw; obtain ⟨s0, s1⟩ := hSw; go_simp; try rfl
  try simp only [Act.put,j1,j2,j3,j4,j5,j6]
  refine tW ?_ 14 rfl ?_ ?_; rotate_left
  · intro w' hSw; go_simp; try rfl
  try simp only [Act.put,j1,j2,j3,j4,j5,j6]
  refine tW ?_ 15 rfl ?_ ?_; rotate_left
  · intro w' hSw; go_simp; try rfl
  try simp only [Act.put,j1,j2,j3,j4,j5,j6]
  refine tW ?_ 16 rfl ?_ ?_; rotate_left
  · intro w' hSw; go_simp; try rfl
  try simp only [Act.put,j1,j2,j3,j4,j5,j6]
  refine tL ?_ 17 rfl hSc2 ?_ ?_; rotate_left
  · intro w' hSw; obtain ⟨s0, s1⟩ := hSw; go_simp; try rfl
  try simp only [Act.put,j1,j2,j3,j4,j5,j6]
  refine tW ?_ 18 rfl ?_ ?_; rotate_left
  · intro w' hSw; go_simp; try rfl
  try simp only [Act.put,j1,j2,j3,j4,j5,j6]
  refine tW ?_ 19 rfl ?_ ?_; rotate_left
  · intro w' hSw; go_simp; try rfl
  try simp only [Act.put,j1,j2,j3,j4,j5,j6]
  refine tW ?_ 20 rfl ?_ ?_; rotate_left
  · intro w' hSw; go_simp; try rfl
  try simp only [Act.put,j1,j2,j3,j4,j5,j6]
  refine wpAnyG_one (i := 21) (by kernel_rfl) rfl hSc2 (fun K' hK => ?_)
  simp only [j1,j2,j3]
  go_simp
  refine (scrollU_c lo b s g cc ah dh _ s.top s.bot m Hv1.out.drew HOK.out (Nat.le_of_lt HOK.out.tb) HOK.out.bh hm10 (by show lo ≤ v1.heap.size; omega)).mono ?_
  rintro e x1 ⟨rfl, hr, _⟩
  have HR : Hid (ScrR lo b 0 (scU true s.top s.bot m s) g ah w x1) := Lib.hid (ScrR.trans Hv1.out.drew HUv1.out.drew (.inl rfl) (fun _ h => .inl h) hr)
  have e1 := scU_same true s.top s.bot s m
  obtain ⟨g1, cc1, ah1, dh1, ha, _⟩ := hr
  have hSx : x1.cell? ⟨b, 5, none⟩ = some (.int .i64 (s.top : Int)) ∧ x1.cell? ⟨b, 6, none⟩ = some (.int .i64 (s.bot : Int)) := ⟨by have := ha.c5; rw [e1.2.2.2.2.2.1] at this; exact this, by have := ha.c6; rw [e1.2.2.2.2.2.2.1] at this; exact this⟩
  clear ha
  refine hK.out _ _ (Or.inr hSx) ?_
  clear hK K'
  try simp only [Act.put,j1,j2,j3,j4,j5,j6]
  refine wpAnyG_done (by kernel_rfl) ?_ _
  go_wp2_with fail
  first | refine bodyPost_end (v := .tuple #[]) (by simp [results, Tryz.results82]) rfl ?_ | refine bodyPost_ret (v := .tuple #[]) (by simp [results, Tryz.results82]) rfl ?_
  refine ⟨rfl, ?_⟩
  unfold csiS
  rw [if_neg (by decide), if_neg (by decide), if_neg (by decide), if_neg (by decide), if_neg (by decide), if_neg (by decide), if_neg (by decide), if_neg (by decide), if_neg (by decide), if_pos (by decide)]
  rw [HN.out, HM.out]
  exact HR.out
theorem csi84_c (lo b : Nat) (s : Scr) (g cc : Nat) (ah : Option Addr) (dh : Nat) (w : World) (kd : Int) (xs : List Int) (aa : Option Addr) (ca : Nat) (tx : ByteArray) (h : ScrAt lo b 0 s g cc ah dh w) (ok : ScrOK s) (hlo : lo ≤ w.heap.size) (ha : Sl intE 1 w aa xs) (hna : ∀ k ∈ blkOf aa, k ≠ b ∧ k ≠ g ∧ k ∉ blkOf ah) (hx8 : xs.length ≤ 8) (hxr : ∀ x ∈ xs, -1 ≤ x ∧ x ≤ 9999) :
    Calls Tryz.prog 82 #[.pointer (some ⟨b, 0, none⟩), .agg #[.int .i64 kd, .int .i64 84, .bool false, .slice aa xs.length ca, .string tx]] w fun e w' => e = .returned (.tuple #[]) ∧ ScrR lo b 0 (csiS s 84 xs) g ah w w' := by
  have HS := Lib.hid h
  have HOK := Lib.hid ok
  have HA := Lib.hid ha
  have HNA := Lib.hid hna
  have HXR := Lib.hid hxr
  have HX8 := Lib.hid hx8
  have hw1 := ok.w1
  have hw2 := ok.w2
  have hh1 := ok.h1
  have hh2 := ok.h2
  have hx := ok.hx
  have hy := ok.hy
  have hcur := ok.cur
  have hcn := ok.cn
  have hlt := h.lt
  obtain ⟨n, hn⟩ : ∃ n, arg1 xs 0 = n := ⟨_, rfl⟩
  obtain ⟨A0, hA0⟩ : ∃ a, argA xs 0 1 = a := ⟨_, rfl⟩
  have hAb : -1 ≤ A0 ∧ A0 ≤ 9999 := by rw [← hA0]; exact argA_bd HXR.out (by omega) (by omega)
  have hm : max 1 A0 = (n : Int) := by rw [← hn, ← hA0]; unfold arg1; omega
  have hn1 : 1 ≤ n := by omega
  have hn2 : n ≤ 9999 := by omega
  have HN := Lib.hid hn
  have HA0 := Lib.hid hA0
  obtain ⟨p, hp⟩ : ∃ p, s.y * s.w = p := ⟨_, rfl⟩
  obtain ⟨mx, hmx⟩ : ∃ m, min s.x (s.w - 1) = m := ⟨_, rfl⟩
  obtain ⟨cr, hcr⟩ : ∃ c, curS s = c := ⟨_, rfl⟩
  obtain ⟨pn, hpn⟩ : ∃ q, (s.y + 1) * s.w = q := ⟨_, rfl⟩
  obtain ⟨nn, hnn⟩ : ∃ q, s.w * s.h = q := ⟨_, rfl⟩
  have hpi : (s.y : Int) * (s.w : Int) = (p : Int) := by rw [← hp]; exact (Int.natCast_mul _ _).symm
  have hpni : ((s.y : Int) + 1) * (s.w : Int) = (pn : Int) := by rw [← hpn]; exact (Int.natCast_mul (s.y + 1) s.w).symm
  have hnni : (s.w : Int) * (s.h : Int) = (nn : Int) := by rw [← hnn]; exact (Int.natCast_mul _ _).symm
  have hmi : min (s.x : Int) ((s.w : Int) - 1) = (mx : Int) := by omega
  have hcri : (p : Int) + (mx : Int) = (cr : Int) := by rw [← hcr, ← hp, ← hmx]; unfold curS; omega
  have hn240 : nn ≤ 240 := by rw [← hnn]; exact Nat.mul_le_mul hw2 hh2
  rw [hcr, hp, hpn, hnn] at hcur
  rw [hnn] at hcn
  obtain ⟨hc1, hc2, hc3⟩ := hcur
  have HCN := Lib.hid hcn
  have HP := Lib.hid hp
  have HMX := Lib.hid hmx
  have HCR := Lib.hid hcr
  have HPN := Lib.hid hpn
  have HNN := Lib.hid hnn
  have hwA : IntKind.i64.wrap ((s.w : Int) - 1) = (s.w : Int) - 1 := IntWalk.i64_in _ ⟨by omega, by omega⟩
  have hwB : IntKind.i64.wrap (p : Int) = (p : Int) := IntWalk.i64_in _ ⟨by omega, by omega⟩
  have hwC : IntKind.i64.wrap (cr : Int) = (cr : Int) := IntWalk.i64_in _ ⟨by omega, by omega⟩
  have hwD : IntKind.i64.wrap (pn : Int) = (pn : Int) := IntWalk.i64_in _ ⟨by omega, by omega⟩
  have hwE : IntKind.i64.wrap (nn : Int) = (nn : Int) := IntWalk.i64_in _ ⟨by omega, by omega⟩
  have hwF : IntKind.i64.wrap ((s.y : Int) + 1) = (s.y : Int) + 1 := IntWalk.i64_in _ ⟨by omega, by omega⟩
  have hwG : IntKind.i64.wrap ((cr : Int) + 1) = (cr : Int) + 1 := IntWalk.i64_in _ ⟨by omega, by omega⟩
  obtain ⟨ln, hln⟩ : ∃ l, xs.length = l := ⟨_, rfl⟩
  have HLN := Lib.hid hln
  have HCALL : ∀ (i : Nat) (d : Int) (W : World), i ≤ 7 → Sl intE 1 W aa xs → Calls Tryz.prog 117 #[.agg #[.int .i64 kd, .int .i64 84, .bool false, .slice aa ln ca, .string tx], .int .i64 i, .int .i64 d] W fun e w' => e = .returned (.int .i64 (argA xs i d)) ∧ Below W.heap.size W w' := fun i d W hi hW => by
    rw [← hln]
    exact l03ArgG_c kd 84 false tx xs aa ca i d W hW hi hx8
  rw [hln]
  clear h ok ha hna hxr hx8 hn hA0 hp hmx hcr hpn hnn hcn hln
  go_enter Tryz.func82, Tryz.ntmps82
  go_wp2_with fail
  refine (HCALL 0 1 _ (by omega) (HA.out.alloc _)).mono ?_
  rintro e v0 ⟨rfl, hb0⟩
  rw [HA0.out]
  have HB0 : Hid (Below w.heap.size w v0) := Lib.hid (((Below.refl w.heap.size w).alloc (Nat.le_refl _) _).trans (hb0.mono (by simp)))
  have hz0 := HB0.out.size
  have q_l : w.heap.size < v0.heap.size := by have := hb0.size; simp at this; omega
  have q_0 : v0.cell? ⟨w.heap.size, 0, none⟩ = some (.int .i64 kd) := kC hb0 (by simp) (by simp [go_sem])
  have q_1 : v0.cell? ⟨w.heap.size, 1, none⟩ = some (.int .i64 84) := kC hb0 (by simp) (by simp [go_sem])
  have q_2 : v0.cell? ⟨w.heap.size, 2, none⟩ = some (.bool false) := kC hb0 (by simp) (by simp [go_sem])
  have q_3 : v0.cell? ⟨w.heap.size, 3, none⟩ = some (.slice aa ln ca) := kC hb0 (by simp) (by simp [go_sem])
  have q_4 : v0.cell? ⟨w.heap.size, 4, none⟩ = some (.string tx) := kC hb0 (by simp) (by simp [go_sem])
  clear hb0
  have q_b : ¬ w.heap.size = b := by omega
  have HA_nb : ∀ k ∈ blkOf aa, ¬ k = b := fun k hk => (HNA.out k hk).1
  have Hv0 := Lib.hid (HS.out.below HB0.out)
  have HA2 := Lib.hid (HA.out.keep HB0.out)
  have HUv0 : Hid (Upd b 0 (0 + 12) (fun k => k = g ∨ k ∈ blkOf ah) w v0) := Lib.hid (Upd.refl'.below HB0.out HS.out.lt)
  have HA2_nb := HA_nb
  have k_0 := Hv0.out.e0
  have k_1 := Hv0.out.e1
  have k_2 := Hv0.out.e2
  have k_3 := Hv0.out.e3
  have k_4 := Hv0.out.e4
  have k_5 := Hv0.out.e5
  have k_6 := Hv0.out.e6
  have k_7 := Hv0.out.e7
  have k_8 := Hv0.out.e8
  have k_9 := Hv0.out.e9
  have k_10 := Hv0.out.e10
  have k_11 := Hv0.out.e11
  have k_f := Hv0.out.fz
  have k_l := Hv0.out.lt
  go_upto_region 4 with fail
  have hSc1 := And.intro k_0 (And.intro k_2 k_3)
  refine wp_region_G (fun w' => w'.cell? ⟨b, 0, none⟩ = some (.int .i64 (s.w : Int)) ∧ w'.cell? ⟨b, 2, none⟩ = some (.int .i64 (s.x : Int)) ∧ w'.cell? ⟨b, 3, none⟩ = some (.int .i64 (s.y : Int))) (fun i => false) (by kernel_rfl) hSc1 ?_
  refine tW ?_ 0 rfl ?_ ?_; rotate_left
  · intro w' hSw; go_simp; try rfl
  try simp only [Act.put,j1,j2,j3,j4,j5,j6]
  refine tW ?_ 1 rfl ?_ ?_; rotate_left
  · intro w' hSw; go_simp; try rfl
  try simp only [Act.put,j1,j2,j3,j4,j5,j6]
  refine tW ?_ 2 rfl ?_ ?_; rotate_left
  · intro w' hSw; go_simp; try rfl
  try simp only [Act.put,j1,j2,j3,j4,j5,j6]
  refine tL ?_ 3 rfl hSc1 ?_ ?_; rotate_left
  · intro w' hSw; obtain ⟨s0, s1, s2⟩ := hSw; go_simp; try rfl
  try simp only [Act.put,j1,j2,j3,j4,j5,j6]
  refine tW ?_ 4 rfl ?_ ?_; rotate_left
  · intro w' hSw; go_simp; try rfl
  try simp only [Act.put,j1,j2,j3,j4,j5,j6]
  refine tW ?_ 5 rfl ?_ ?_; rotate_left
  · intro w' hSw; go_simp; try rfl
  try simp only [Act.put,j1,j2,j3,j4,j5,j6]
  refine tW ?_ 6 rfl ?_ ?_; rotate_left
  · intro w' hSw; go_simp; try rfl
  try simp only [Act.put,j1,j2,j3,j4,j5,j6]
  refine tL ?_ 7 rfl hSc1 ?_ ?_; rotate_left
  · intro w' hSw; obtain ⟨s0, s1, s2⟩ := hSw; go_simp; try rfl
  try simp only [Act.put,j1,j2,j3,j4,j5,j6]
  refine tW ?_ 8 rfl ?_ ?_; rotate_left
  · intro w' hSw; go_simp; try rfl
  try simp only [Act.put,j1,j2,j3,j4,j5,j6]
  refine tW ?_ 9 rfl ?_ ?_; rotate_left
  · intro w' hSw; go_simp; try rfl
  try simp only [Act.put,j1,j2,j3,j4,j5,j6]
  refine tW ?_ 10 rfl ?_ ?_; rotate_left
  · intro w' hSw; go_simp; try rfl
  try simp only [Act.put,j1,j2,j3,j4,j5,j6]
  refine tW ?_ 11 rfl ?_ ?_; rotate_left
  · intro w' hSw; go_simp; try rfl
  try simp only [Act.put,j1,j2,j3,j4,j5,j6]
  refine tL ?_ 12 rfl hSc1 ?_ ?_; rotate_left
  · intro w' hSw; obtain ⟨s0, s1, s2⟩ := hSw; go_simp; try rfl
  try simp only [Act.put,j1,j2,j3,j4,j5,j6]
  refine tW ?_ 13 rfl ?_ ?_; rotate_left
  · intro w' hSw; go_simp; try rfl
  try simp only [Act.put,j1,j2,j3,j4,j5,j6]
  refine tW ?_ 14 rfl ?_ ?_; rotate_left
  · intro w' hSw; go_simp; try rfl
  try simp only [Act.put,j1,j2,j3,j4,j5,j6]
  refine tW ?_ 15 rfl ?_ ?_; rotate_left
  · intro w' hSw; go_simp; try rfl
  try simp only [Act.put,j1,j2,j3,j4,j5,j6]
  refine tL ?_ 16 rfl hSc1 ?_ ?_; rotate_left
  · intro w' hSw; obtain ⟨s0, s1, s2⟩ := hSw; go_simp; try rfl
  try simp only [Act.put,j1,j2,j3,j4,j5,j6]
  refine tW ?_ 17 rfl ?_ ?_; rotate_left
  · intro w' hSw; go_simp; try rfl
  try simp only [Act.put,j1,j2,j3,j4,j5,j6]
  refine tW ?_ 18 rfl ?_ ?_; rotate_left
  · intro w' hSw; go_simp; try rfl
  try simp only [Act.put,j1,j2,j3,j4,j5,j6]
  refine tW ?_ 19 rfl ?_ ?_; rotate_left
  · intro w' hSw; go_simp; try rfl
  try simp only [Act.put,j1,j2,j3,j4,j5,j6]
  refine tW ?_ 20 rfl ?_ ?_; rotate_left
  · intro w' hSw; go_simp; try rfl
  try simp only [Act.put,j1,j2,j3,j4,j5,j6]
  refine wpAnyG_done (by kernel_rfl) ?_ _
  obtain ⟨v1, hv1⟩ : ∃ x, v0.drew = x := ⟨_, rfl⟩
  have HBv1 : Hid (Below v0.heap.size v0 v1) := Lib.hid (by rw [← hv1]; exact (Below.refl _ _).drew)
  rw [hv1]
  have hzv1 := HBv1.out.size
  have Hv1 := Lib.hid (Hv0.out.below HBv1.out)
  have HUv1 : Hid (Upd b 0 (0 + 12) (fun k => k = g ∨ k ∈ blkOf ah) w v1) := Lib.hid (HUv0.out.below HBv1.out Hv0.out.lt)
  have qn_0 := kC HBv1.out q_l q_0
  have qn_1 := kC HBv1.out q_l q_1
  have qn_2 := kC HBv1.out q_l q_2
  have qn_3 := kC HBv1.out q_l q_3
  have qn_4 := kC HBv1.out q_l q_4
  have qn_l := Nat.lt_of_lt_of_le q_l HBv1.out.size
  clear q_0 q_1 q_2 q_3 q_4 q_l
  have HA2n := Lib.hid (HA2.out.keep HBv1.out)
  clear k_f k_l k_0 k_1 k_2 k_3 k_4 k_5 k_6 k_7 k_8 k_9 k_10 k_11 hv1 hSc1
  have k_0 := Hv1.out.e0
  have k_1 := Hv1.out.e1
  have k_2 := Hv1.out.e2
  have k_3 := Hv1.out.e3
  have k_4 := Hv1.out.e4
  have k_5 := Hv1.out.e5
  have k_6 := Hv1.out.e6
  have k_7 := Hv1.out.e7
  have k_8 := Hv1.out.e8
  have k_9 := Hv1.out.e9
  have k_10 := Hv1.out.e10
  have k_11 := Hv1.out.e11
  have k_f := Hv1.out.fz
  have k_l := Hv1.out.lt
  have htb := HOK.out.tb
  have hbh := HOK.out.bh
  obtain ⟨m, hmm⟩ : ∃ m, min n (s.bot - s.top + 1) = m := ⟨_, rfl⟩
  have hmi2 : min (n : Int) ((s.bot : Int) - (s.top : Int) + 1) = (m : Int) := by omega
  have hm10 : m ≤ 10 := by omega
  have HM := Lib.hid hmm
  have hwI : IntKind.i64.wrap ((s.bot : Int) - (s.top : Int)) = (s.bot : Int) - (s.top : Int) := IntWalk.i64_in _ ⟨by omega, by omega⟩
  have hwJ : IntKind.i64.wrap ((s.bot : Int) - (s.top : Int) + 1) = (s.bot : Int) - (s.top : Int) + 1 := IntWalk.i64_in _ ⟨by omega, by omega⟩
  have hwK : IntKind.i64.wrap (-(m : Int)) = -(m : Int) := IntWalk.i64_in _ ⟨by omega, by omega⟩
  clear hmm
  go_upto_region 45 with fail
  have hSc2 := And.intro k_5 k_6
  refine wp_region_G (fun w' => w'.cell? ⟨b, 5, none⟩ = some (.int .i64 (s.top : Int)) ∧ w'.cell? ⟨b, 6, none⟩ = some (.int .i64 (s.bot : Int))) (fun i => false) (by kernel_rfl) hSc2 ?_
  refine tW ?_ 0 rfl ?_ ?_; rotate_left
  · intro w' hSw; go_simp; try rfl
  try simp only [Act.put,j1,j2,j3,j4,j5,j6]
  refine tW ?_ 1 rfl ?_ ?_; rotate_left
  · intro w' hSw; go_simp; try rfl
  try simp only [Act.put,j1,j2,j3,j4,j5,j6]
  refine tW ?_ 2 rfl ?_ ?_; rotate_left
  · intro w' hSw; go_simp; try rfl
  try simp only [Act.put,j1,j2,j3,j4,j5,j6]
  refine tW ?_ 3 rfl ?_ ?_; rotate_left
  · intro w' hSw; go_simp; try rfl
  try simp only [Act.put,j1,j2,j3,j4,j5,j6]
  refine tL ?_ 4 rfl hSc2 ?_ ?_; rotate_left
  · intro w' hSw; obtain ⟨s0, s1⟩ := hSw; go_simp; try rfl
  try simp only [Act.put,j1,j2,j3,j4,j5,j6]
  refine tW ?_ 5 rfl ?_ ?_; rotate_left
  · intro w' hSw; go_simp; try rfl
  try simp only [Act.put,j1,j2,j3,j4,j5,j6]
  refine tW ?_ 6 rfl ?_ ?_; rotate_left
  · intro w' hSw; go_simp; try rfl
  try simp only [Act.put,j1,j2,j3,j4,j5,j6]
  refine tW ?_ 7 rfl ?_ ?_; rotate_left
  · intro w' hSw; go_simp; try rfl
  try simp only [Act.put,j1,j2,j3,j4,j5,j6]
  refine tL ?_ 8 rfl hSc2 ?_ ?_; rotate_left
  · intro w' hSw; obtain ⟨s0, s1⟩ := hSw; go_simp; try rfl
  try simp only [Act.put,j1,j2,j3,j4,j5,j6]
  refine tW ?_ 9 rfl ?_ ?_; rotate_left
  · intro w' hSw; go_simp; try rfl
  try simp only [Act.put,j1,j2,j3,j4,j5,j6]
  refine tW ?_ 10 rfl ?_ ?_; rotate_left
  · intro w' hSw; go_simp; try rfl
  try simp only [Act.put,j1,j2,j3,j4,j5,j6]
  refine tW ?_ 11 rfl ?_ ?_; rotate_left
  · intro w' hSw; go_simp; try rfl
  try simp only [Act.put,j1,j2,j3,j4,j5,j6]
  refine tW ?_ 12 rfl ?_ ?_; rotate_left
  · intro w' hSw; go_simp; try rfl
  try simp only [Act.put,j1,j2,j3,j4,j5,j6]
  refine tL ?_ 13 rfl hSc2 ?_ ?_; rotate_left
  · intro w' hSw; obtain ⟨s0, s1⟩ := hSw; go_simp; try rfl
  try simp only [Act.put,j1,j2,j3,j4,j5,j6]
  refine tW ?_ 14 rfl ?_ ?_; rotate_left
  · intro w' hSw; go_simp; try rfl
  try simp only [Act.put,j1,j2,j3,j4,j5,j6]
  refine tW ?_ 15 rfl ?_ ?_; rotate_left
  · intro w' hSw; go_simp; try rfl
  try simp only [Act.put,j1,j2,j3,j4,j5,j6]
  refine tW ?_ 16 rfl ?_ ?_; rotate_left
  · intro w' hSw; go_simp; try rfl
  try simp only [Act.put,j1,j2,j3,j4,j5,j6]
  refine tL ?_ 17 rfl hSc2 ?_ ?_; rotate_left
  · intro w' hSw; obtain ⟨s0, s1⟩ := hSw; go_simp; try rfl
  try simp only [Act.put,j1,j2,j3,j4,j5,j6]
  refine tW ?_ 18 rfl ?_ ?_; rotate_left
  · intro w' hSw; go_simp; try rfl
  try simp only [Act.put,j1,j2,j3,j4,j5,j6]
  refine tW ?_ 19 rfl ?_ ?_; rotate_left
  · intro w' hSw; go_simp; try rfl
  try simp only [Act.put,j1,j2,j3,j4,j5,j6]
  refine tW ?_ 20 rfl ?_ ?_; rotate_left
  · intro w' hSw; go_simp; try rfl
  try simp only [Act.put,j1,j2,j3,j4,j5,j6]
  refine tW ?_ 21 rfl ?_ ?_; rotate_left
  · intro w' hSw; go_simp; try rfl
  try simp only [Act.put,j1,j2,j3,j4,j5,j6]
  refine wpAnyG_one (i := 22) (by kernel_rfl) rfl hSc2 (fun K' hK => ?_)
  simp only [j1,j2,j3]
  go_simp
  refine (scrollD_c lo b s g cc ah dh _ s.top s.bot m Hv1.out.drew HOK.out (Nat.le_of_lt HOK.out.tb) HOK.out.bh hm10).mono ?_
  rintro e x1 ⟨rfl, ha, hc⟩
  have HR : Hid (ScrR lo b 0 (scD s.top s.bot m s) g ah w x1) := Lib.hid (.mk ha (HUv1.out.drew.transN (Upd.ofCh (S := fun i => i = g) hc Hv1.out.lt (fun e => HS.out.gb e.symm) (fun i hi => .inl hi)) (fun i hi => .inl (.inl hi))))
  have e1 := scD_same s.top s.bot s m
  have hSx : x1.cell? ⟨b, 5, none⟩ = some (.int .i64 (s.top : Int)) ∧ x1.cell? ⟨b, 6, none⟩ = some (.int .i64 (s.bot : Int)) := ⟨by have := ha.c5; rw [e1.2.2.2.2.2.1] at this; exact this, by have := ha.c6; rw [e1.2.2.2.2.2.2.1] at this; exact this⟩
  clear ha hc
  refine hK.out _ _ (Or.inr hSx) ?_
  clear hK K'
  try simp only [Act.put,j1,j2,j3,j4,j5,j6]
  refine wpAnyG_done (by kernel_rfl) ?_ _
  go_wp2_with fail
  first | refine bodyPost_end (v := .tuple #[]) (by simp [results, Tryz.results82]) rfl ?_ | refine bodyPost_ret (v := .tuple #[]) (by simp [results, Tryz.results82]) rfl ?_
  refine ⟨rfl, ?_⟩
  unfold csiS
  rw [if_neg (by decide), if_neg (by decide), if_neg (by decide), if_neg (by decide), if_neg (by decide), if_neg (by decide), if_neg (by decide), if_neg (by decide), if_neg (by decide), if_neg (by decide), if_pos (by decide)]
  rw [HN.out, HM.out]
  exact HR.out
end
section
open Go.RowKit
theorem bvNat (a : Nat) (ha : a < 4611686018427387904) : (BitVec.ofInt 64 (a : Int)).toNat = a := by
  rw [BitVec.ofInt_natCast, BitVec.toNat_ofNat]; exact Nat.mod_eq_of_lt (by omega)
theorem or_i64 (a b : Nat) (ha : a < 4611686018427387904) (hb : b < 4611686018427387904) : bits .or .i64 (a : Int) (b : Int) = ((a ||| b : Nat) : Int) := by
  have hx : a ||| b < 2 ^ 62 := Nat.or_lt_two_pow (by omega) (by omega)
  show IntKind.i64.wrap ((BitVec.ofInt 64 (a : Int) ||| BitVec.ofInt 64 (b : Int)).toNat : Int) = _
  rw [BitVec.toNat_or, bvNat a ha, bvNat b hb, IntKind.wrap_i64]
  omega
theorem and_i64 (a b : Nat) (ha : a < 4611686018427387904) (hb : b < 4611686018427387904) : bits .and .i64 (a : Int) (b : Int) = ((a &&& b : Nat) : Int) := by
  have hx : a &&& b < 2 ^ 62 := Nat.and_lt_two_pow _ (by omega)
  show IntKind.i64.wrap ((BitVec.ofInt 64 (a : Int) &&& BitVec.ofInt 64 (b : Int)).toNat : Int) = _
  rw [BitVec.toNat_and, bvNat a ha, bvNat b hb, IntKind.wrap_i64]
  omega
theorem look_c (lo b : Nat) (s : Scr) (g cc : Nat) (ah : Option Addr) (dh : Nat) (w : World) (n : Int) (h : ScrAt lo b 0 s g cc ah dh w) (ok : ScrOK s) (hlo : lo ≤ w.heap.size) (hn : 0 ≤ n ∧ n ≤ 9999) :
    Calls Tryz.prog 121 #[.pointer (some ⟨b, 0, none⟩), .int .i64 n] w fun e w' => e = .returned (.tuple #[]) ∧ ScrR lo b 0 ({ s with look := lookN s.look n }) g ah w w' := by
  have HS := Lib.hid h
  have HOK := Lib.hid ok
  have hw1 := ok.w1
  have hw2 := ok.w2
  have hh1 := ok.h1
  have hh2 := ok.h2
  have hx := ok.hx
  have hy := ok.hy
  clear h ok
  have k_4 := HS.out.c4
  have k_f := HS.out.fz
  have k_l := HS.out.lt
  obtain ⟨l, hl⟩ : ∃ l, s.look = l := ⟨_, rfl⟩
  have hl7 : l ≤ 127 := by rw [← hl]; exact HOK.out.lk
  have HL := Lib.hid hl
  rw [hl] at k_4
  clear hl
  by_cases h0 : n = 0
  · subst h0
    go_enter Tryz.func121, Tryz.ntmps121
    go_wp2_with fail
    first | refine bodyPost_end (v := .tuple #[]) (by simp [results, Tryz.results121]) rfl ?_ | refine bodyPost_ret (v := .tuple #[]) (by simp [results, Tryz.results121]) rfl ?_
    refine ⟨rfl, ?_⟩
    rw [HL.out]
    have e1 : lookN l 0 = 0 := rfl
    rw [e1]
    refine ScrR.mk (cc := cc) (dh := dh) ?_ ?_
    · repeat (with_reducible refine ScrAt.drew ?_)
      exact HS.out.setv4 _ rfl
    · repeat (with_reducible refine Upd.drew ?_)
      exact Upd.refl'.set4 _
  by_cases h1 : n = 1
  · subst h1
    have hb : bits .or .i64 (l : Int) 64 = ((l ||| 64 : Nat) : Int) := or_i64 l 64 (by omega) (by omega)
    obtain ⟨L, hL⟩ : ∃ L, l ||| 64 = L := ⟨_, rfl⟩
    rw [hL] at hb
    have HLL := Lib.hid hL
    clear hL
    go_enter Tryz.func121, Tryz.ntmps121
    go_wp2_with fail
    first | refine bodyPost_end (v := .tuple #[]) (by simp [results, Tryz.results121]) rfl ?_ | refine bodyPost_ret (v := .tuple #[]) (by simp [results, Tryz.results121]) rfl ?_
    refine ⟨rfl, ?_⟩
    rw [HL.out]
    have e1 : lookN l 1 = L := by rw [← HLL.out]; rfl
    rw [e1]
    refine ScrR.mk (cc := cc) (dh := dh) ?_ ?_
    · repeat (with_reducible refine ScrAt.drew ?_)
      exact HS.out.setv4 _ rfl
    · repeat (with_reducible refine Upd.drew ?_)
      exact Upd.refl'.set4 _
  by_cases h4 : n = 4
  · subst h4
    have hb : bits .or .i64 (l : Int) 32 = ((l ||| 32 : Nat) : Int) := or_i64 l 32 (by omega) (by omega)
    obtain ⟨L, hL⟩ : ∃ L, l ||| 32 = L := ⟨_, rfl⟩
    rw [hL] at hb
    have HLL := Lib.hid hL
    clear hL
    go_enter Tryz.func121, Tryz.ntmps121
    go_wp2_with fail
    first | refine bodyPost_end (v := .tuple #[]) (by simp [results, Tryz.results121]) rfl ?_ | refine bodyPost_ret (v := .tuple #[]) (by simp [results, Tryz.results121]) rfl ?_
    refine ⟨rfl, ?_⟩
    rw [HL.out]
    have e1 : lookN l 4 = L := by rw [← HLL.out]; rfl
    rw [e1]
    refine ScrR.mk (cc := cc) (dh := dh) ?_ ?_
    · repeat (with_reducible refine ScrAt.drew ?_)
      exact HS.out.setv4 _ rfl
    · repeat (with_reducible refine Upd.drew ?_)
      exact Upd.refl'.set4 _
  by_cases h7 : n = 7
  · subst h7
    have hb : bits .or .i64 (l : Int) 16 = ((l ||| 16 : Nat) : Int) := or_i64 l 16 (by omega) (by omega)
    obtain ⟨L, hL⟩ : ∃ L, l ||| 16 = L := ⟨_, rfl⟩
    rw [hL] at hb
    have HLL := Lib.hid hL
    clear hL
    go_enter Tryz.func121, Tryz.ntmps121
    go_wp2_with fail
    first | refine bodyPost_end (v := .tuple #[]) (by simp [results, Tryz.results121]) rfl ?_ | refine bodyPost_ret (v := .tuple #[]) (by simp [results, Tryz.results121]) rfl ?_
    refine ⟨rfl, ?_⟩
    rw [HL.out]
    have e1 : lookN l 7 = L := by rw [← HLL.out]; rfl
    rw [e1]
    refine ScrR.mk (cc := cc) (dh := dh) ?_ ?_
    · repeat (with_reducible refine ScrAt.drew ?_)
      exact HS.out.setv4 _ rfl
    · repeat (with_reducible refine Upd.drew ?_)
      exact Upd.refl'.set4 _
  have q0 : (n == 0) = false := beq_eq_false_iff_ne.2 h0
  have q1 : (n == 1) = false := beq_eq_false_iff_ne.2 h1
  have q4 : (n == 4) = false := beq_eq_false_iff_ne.2 h4
  have q7 : (n == 7) = false := beq_eq_false_iff_ne.2 h7
  have hand : bits .and .i64 (l : Int) 112 = ((l &&& 112 : Nat) : Int) := and_i64 l 112 (by omega) (by omega)
  obtain ⟨M, hM⟩ : ∃ L, l &&& 112 = L := ⟨_, rfl⟩
  have hM7 : M ≤ 112 := by rw [← hM]; exact Nat.and_le_right
  rw [hM] at hand
  have HM := Lib.hid hM
  clear hM
  by_cases hr : 30 ≤ n ∧ n ≤ 37
  · obtain ⟨hr1, hr2⟩ := hr
    have HI : Hid (inB n 30 37 = true) := Lib.hid (by simp [inB]; omega)
    obtain ⟨d, hd⟩ : ∃ d : Nat, n - 29 = (d : Int) := ⟨(n - 29).toNat, by omega⟩
    have hor : bits .or .i64 (M : Int) (d : Int) = ((M ||| d : Nat) : Int) := or_i64 M d (by omega) (by omega)
    obtain ⟨L, hL⟩ : ∃ L, M ||| d = L := ⟨_, rfl⟩
    rw [hL] at hor
    have HLL := Lib.hid hL
    have HD := Lib.hid hd
    clear hL
    go_enter Tryz.func121, Tryz.ntmps121
    go_wp2_with (go_at_call 60; refine (l01In_c _ _ _ _).mono ?_; rw [HI.out]; rintro e w' ⟨rfl, rfl⟩)
    first | refine bodyPost_end (v := .tuple #[]) (by simp [results, Tryz.results121]) rfl ?_ | refine bodyPost_ret (v := .tuple #[]) (by simp [results, Tryz.results121]) rfl ?_
    refine ⟨rfl, ?_⟩
    rw [HL.out]
    have e1 : lookN l n = L := by unfold lookN; rw [if_neg (by omega), if_neg h1, if_neg h4, if_neg h7, if_pos (by omega), HM.out, ← HLL.out]; congr 1; have := HD.out; omega
    rw [e1]
    refine ScrR.mk (cc := cc) (dh := dh) ?_ ?_
    · repeat (with_reducible refine ScrAt.drew ?_)
      exact HS.out.setv4 _ rfl
    · repeat (with_reducible refine Upd.drew ?_)
      exact Upd.refl'.set4 _
  · have HI : Hid (inB n 30 37 = false) := Lib.hid (by simp only [inB, Bool.and_eq_false_iff, decide_eq_false_iff_not]; omega)
    by_cases h39 : n = 39
    · subst h39
      go_enter Tryz.func121, Tryz.ntmps121
      go_wp2_with (go_at_call 60; refine (l01In_c _ _ _ _).mono ?_; rw [HI.out]; rintro e w' ⟨rfl, rfl⟩)
      first | refine bodyPost_end (v := .tuple #[]) (by simp [results, Tryz.results121]) rfl ?_ | refine bodyPost_ret (v := .tuple #[]) (by simp [results, Tryz.results121]) rfl ?_
      refine ⟨rfl, ?_⟩
      rw [HL.out]
      have e1 : lookN l 39 = M := HM.out
      rw [e1]
      refine ScrR.mk (cc := cc) (dh := dh) ?_ ?_
      · repeat (with_reducible refine ScrAt.drew ?_)
        exact HS.out.setv4 _ rfl
      · repeat (with_reducible refine Upd.drew ?_)
        exact Upd.refl'.set4 _
    · have q39 : (n == 39) = false := beq_eq_false_iff_ne.2 h39
      go_enter Tryz.func121, Tryz.ntmps121
      go_wp2_with (go_at_call 60; refine (l01In_c _ _ _ _).mono ?_; rw [HI.out]; rintro e w' ⟨rfl, rfl⟩)
      first | refine bodyPost_end (v := .tuple #[]) (by simp [results, Tryz.results121]) rfl ?_ | refine bodyPost_ret (v := .tuple #[]) (by simp [results, Tryz.results121]) rfl ?_
      refine ⟨rfl, ?_⟩
      rw [HL.out]
      have e1 : lookN l n = l := by unfold lookN; rw [if_neg (by omega), if_neg h1, if_neg h4, if_neg h7, if_neg hr, if_neg h39]
      rw [e1]
      refine ScrR.mk (cc := cc) (dh := dh) ?_ ?_
      · repeat (with_reducible refine ScrAt.drew ?_)
        exact HS.out.setv4 _ rfl
      · repeat (with_reducible refine Upd.drew ?_)
        exact Upd.refl'.set4 _
end
end Go.Proofs.YtjmpgeffkdjpdaaGreatDoor
