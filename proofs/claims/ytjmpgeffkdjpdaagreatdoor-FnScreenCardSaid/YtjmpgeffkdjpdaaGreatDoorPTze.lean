/- Contracts of the functions that the claim reaches. No conditions but sizes. -/
import Derived.Test.YtjmpgeffkdjpdaaGreatDoorPTzd
namespace Go.Proofs.YtjmpgeffkdjpdaaGreatDoor
set_option linter.unusedVariables false
set_option linter.unusedSimpArgs false
set_option maxRecDepth 100000
set_option maxHeartbeats 16000000
section
open Go.RowKit
theorem csi72_c (lo b : Nat) (s : Scr) (g cc : Nat) (ah : Option Addr) (dh : Nat) (w : World) (kd : Int) (xs : List Int) (aa : Option Addr) (ca : Nat) (tx : ByteArray) (h : ScrAt lo b 0 s g cc ah dh w) (ok : ScrOK s) (hlo : lo ≤ w.heap.size) (ha : Sl intE 1 w aa xs) (hna : ∀ k ∈ blkOf aa, k ≠ b ∧ k ≠ g ∧ k ∉ blkOf ah) (hx8 : xs.length ≤ 8) (hxr : ∀ x ∈ xs, -1 ≤ x ∧ x ≤ 9999) :
    Calls Tryz.prog 82 #[.pointer (some ⟨b, 0, none⟩), .agg #[.int .i64 kd, .int .i64 72, .bool false, .slice aa xs.length ca, .string tx]] w fun e w' => e = .returned (.tuple #[]) ∧ ScrR lo b 0 (csiS s 72 xs) g ah w w' := by
  have HS := Lib.hid h
  have HOK := Lib.hid ok
  have HA := Lib.hid ha
  have HNA := Lib.hid hna
  have HXR := Lib.hid hxr
  have HX8 := Lib.hid hx8
  have hw1 := ok.w1
  have hw2 := ok.w2
  have hh1 := ok.h1
  have hh2 := ok.h2
  have hx := ok.hx
  have hy := ok.hy
  have hcur := ok.cur
  have hcn := ok.cn
  have hlt := h.lt
  obtain ⟨n, hn⟩ : ∃ n, arg1 xs 0 = n := ⟨_, rfl⟩
  obtain ⟨A0, hA0⟩ : ∃ a, argA xs 0 1 = a := ⟨_, rfl⟩
  have hAb : -1 ≤ A0 ∧ A0 ≤ 9999 := by rw [← hA0]; exact argA_bd HXR.out (by omega) (by omega)
  have hm : max 1 A0 = (n : Int) := by rw [← hn, ← hA0]; unfold arg1; omega
  have hn1 : 1 ≤ n := by omega
  have hn2 : n ≤ 9999 := by omega
  have HN := Lib.hid hn
  have HA0 := Lib.hid hA0
  obtain ⟨p, hp⟩ : ∃ p, s.y * s.w = p := ⟨_, rfl⟩
  obtain ⟨mx, hmx⟩ : ∃ m, min s.x (s.w - 1) = m := ⟨_, rfl⟩
  obtain ⟨cr, hcr⟩ : ∃ c, curS s = c := ⟨_, rfl⟩
  obtain ⟨pn, hpn⟩ : ∃ q, (s.y + 1) * s.w = q := ⟨_, rfl⟩
  obtain ⟨nn, hnn⟩ : ∃ q, s.w * s.h = q := ⟨_, rfl⟩
  have hpi : (s.y : Int) * (s.w : Int) = (p : Int) := by rw [← hp]; exact (Int.natCast_mul _ _).symm
  have hpni : ((s.y : Int) + 1) * (s.w : Int) = (pn : Int) := by rw [← hpn]; exact (Int.natCast_mul (s.y + 1) s.w).symm
  have hnni : (s.w : Int) * (s.h : Int) = (nn : Int) := by rw [← hnn]; exact (Int.natCast_mul _ _).symm
  have hmi : min (s.x : Int) ((s.w : Int) - 1) = (mx : Int) := by omega
  have hcri : (p : Int) + (mx : Int) = (cr : Int) := by rw [← hcr, ← hp, ← hmx]; unfold curS; omega
  have hn240 : nn ≤ 240 := by rw [← hnn]; exact Nat.mul_le_mul hw2 hh2
  rw [hcr, hp, hpn, hnn] at hcur
  rw [hnn] at hcn
  obtain ⟨hc1, hc2, hc3⟩ := hcur
  have HCN := Lib.hid hcn
  have HP := Lib.hid hp
  have HMX := Lib.hid hmx
  have HCR := Lib.hid hcr
  have HPN := Lib.hid hpn
  have HNN := Lib.hid hnn
  have hwA : IntKind.i64.wrap ((s.w : Int) - 1) = (s.w : Int) - 1 := IntWalk.i64_in _ ⟨by omega, by omega⟩
  have hwB : IntKind.i64.wrap (p : Int) = (p : Int) := IntWalk.i64_in _ ⟨by omega, by omega⟩
  have hwC : IntKind.i64.wrap (cr : Int) = (cr : Int) := IntWalk.i64_in _ ⟨by omega, by omega⟩
  have hwD : IntKind.i64.wrap (pn : Int) = (pn : Int) := IntWalk.i64_in _ ⟨by omega, by omega⟩
  have hwE : IntKind.i64.wrap (nn : Int) = (nn : Int) := IntWalk.i64_in _ ⟨by omega, by omega⟩
  have hwF : IntKind.i64.wrap ((s.y : Int) + 1) = (s.y : Int) + 1 := IntWalk.i64_in _ ⟨by omega, by omega⟩
  have hwG : IntKind.i64.wrap ((cr : Int) + 1) = (cr : Int) + 1 := IntWalk.i64_in _ ⟨by omega, by omega⟩
  obtain ⟨ln, hln⟩ : ∃ l, xs.length = l := ⟨_, rfl⟩
  have HLN := Lib.hid hln
  have HCALL : ∀ (i : Nat) (d : Int) (W : World), i ≤ 7 → Sl intE 1 W aa xs → Calls Tryz.prog 117 #[.agg #[.int .i64 kd, .int .i64 72, .bool false, .slice aa ln ca, .string tx], .int .i64 i, .int .i64 d] W fun e w' => e = .returned (.int .i64 (argA xs i d)) ∧ Below W.heap.size W w' := fun i d W hi hW => by
    rw [← hln]
    exact l03ArgG_c kd 72 false tx xs aa ca i d W hW hi hx8
  rw [hln]
  clear h ok ha hna hxr hx8 hn hA0 hp hmx hcr hpn hnn hcn hln
  go_enter Tryz.func82, Tryz.ntmps82
  go_wp2_with fail
  refine (HCALL 0 1 _ (by omega) (HA.out.alloc _)).mono ?_
  rintro e v0 ⟨rfl, hb0⟩
  rw [HA0.out]
  have HB0 : Hid (Below w.heap.size w v0) := Lib.hid (((Below.refl w.heap.size w).alloc (Nat.le_refl _) _).trans (hb0.mono (by simp)))
  have hz0 := HB0.out.size
  have q_l : w.heap.size < v0.heap.size := by have := hb0.size; simp at this; omega
  have q_0 : v0.cell? ⟨w.heap.size, 0, none⟩ = some (.int .i64 kd) := kC hb0 (by simp) (by simp [go_sem])
  have q_1 : v0.cell? ⟨w.heap.size, 1, none⟩ = some (.int .i64 72) := kC hb0 (by simp) (by simp [go_sem])
  have q_2 : v0.cell? ⟨w.heap.size, 2, none⟩ = some (.bool false) := kC hb0 (by simp) (by simp [go_sem])
  have q_3 : v0.cell? ⟨w.heap.size, 3, none⟩ = some (.slice aa ln ca) := kC hb0 (by simp) (by simp [go_sem])
  have q_4 : v0.cell? ⟨w.heap.size, 4, none⟩ = some (.string tx) := kC hb0 (by simp) (by simp [go_sem])
  clear hb0
  have q_b : ¬ w.heap.size = b := by omega
  have HA_nb : ∀ k ∈ blkOf aa, ¬ k = b := fun k hk => (HNA.out k hk).1
  have Hv0 := Lib.hid (HS.out.below HB0.out)
  have HA2 := Lib.hid (HA.out.keep HB0.out)
  have HUv0 : Hid (Upd b 0 (0 + 12) (fun k => k = g ∨ k ∈ blkOf ah) w v0) := Lib.hid (Upd.refl'.below HB0.out HS.out.lt)
  have HA2_nb := HA_nb
  have k_0 := Hv0.out.e0
  have k_1 := Hv0.out.e1
  have k_2 := Hv0.out.e2
  have k_3 := Hv0.out.e3
  have k_4 := Hv0.out.e4
  have k_5 := Hv0.out.e5
  have k_6 := Hv0.out.e6
  have k_7 := Hv0.out.e7
  have k_8 := Hv0.out.e8
  have k_9 := Hv0.out.e9
  have k_10 := Hv0.out.e10
  have k_11 := Hv0.out.e11
  have k_f := Hv0.out.fz
  have k_l := Hv0.out.lt
  go_upto_region 4 with fail
  have hSc1 := And.intro k_0 (And.intro k_2 k_3)
  refine wp_region_O (fun w' => w'.cell? ⟨b, 0, none⟩ = some (.int .i64 (s.w : Int)) ∧ w'.cell? ⟨b, 2, none⟩ = some (.int .i64 (s.x : Int)) ∧ w'.cell? ⟨b, 3, none⟩ = some (.int .i64 (s.y : Int))) [] [0,1,2,3,4,5,6,7,8,9,10,11,12,13,14,15,16,17,18,19,20] ?_
  iterate 21 (first | refine oW (h := ?_) | refine oL (hS := hSc1) (h := ?_))
  refine oD ?_
  obtain ⟨v1, hv1⟩ : ∃ x, v0.drew = x := ⟨_, rfl⟩
  have HBv1 : Hid (Below v0.heap.size v0 v1) := Lib.hid (by rw [← hv1]; exact (Below.refl _ _).drew)
  rw [hv1]
  have hzv1 := HBv1.out.size
  have Hv1 := Lib.hid (Hv0.out.below HBv1.out)
  have HUv1 : Hid (Upd b 0 (0 + 12) (fun k => k = g ∨ k ∈ blkOf ah) w v1) := Lib.hid (HUv0.out.below HBv1.out Hv0.out.lt)
  have qn_0 := kC HBv1.out q_l q_0
  have qn_1 := kC HBv1.out q_l q_1
  have qn_2 := kC HBv1.out q_l q_2
  have qn_3 := kC HBv1.out q_l q_3
  have qn_4 := kC HBv1.out q_l q_4
  have qn_l := Nat.lt_of_lt_of_le q_l HBv1.out.size
  clear q_0 q_1 q_2 q_3 q_4 q_l
  have HA2n := Lib.hid (HA2.out.keep HBv1.out)
  clear k_f k_l k_0 k_1 k_2 k_3 k_4 k_5 k_6 k_7 k_8 k_9 k_10 k_11 hv1 hSc1
  have k_0 := Hv1.out.e0
  have k_1 := Hv1.out.e1
  have k_2 := Hv1.out.e2
  have k_3 := Hv1.out.e3
  have k_4 := Hv1.out.e4
  have k_5 := Hv1.out.e5
  have k_6 := Hv1.out.e6
  have k_7 := Hv1.out.e7
  have k_8 := Hv1.out.e8
  have k_9 := Hv1.out.e9
  have k_10 := Hv1.out.e10
  have k_11 := Hv1.out.e11
  have k_f := Hv1.out.fz
  have k_l := Hv1.out.lt
  have hwJ : IntKind.i64.wrap ((s.h : Int) - 1) = (s.h : Int) - 1 := IntWalk.i64_in _ ⟨by omega, by omega⟩
  have hwK : IntKind.i64.wrap ((n : Int) - 1) = (n : Int) - 1 := IntWalk.i64_in _ ⟨by omega, by omega⟩
  obtain ⟨n1, hN1⟩ : ∃ n, arg1 xs 1 = n := ⟨_, rfl⟩
  obtain ⟨A1, hA1⟩ : ∃ a, argA xs 1 1 = a := ⟨_, rfl⟩
  have hA1b : -1 ≤ A1 ∧ A1 ≤ 9999 := by rw [← hA1]; exact argA_bd HXR.out (by omega) (by omega)
  have hm1 : max 1 A1 = (n1 : Int) := by rw [← hN1, ← hA1]; unfold arg1; omega
  have hwL : IntKind.i64.wrap ((n1 : Int) - 1) = (n1 : Int) - 1 := IntWalk.i64_in _ ⟨by omega, by omega⟩
  have HN1 := Lib.hid hN1
  have HA1 := Lib.hid hA1
  clear hN1 hA1
  go_upto_region 17 with fail
  obtain ⟨v2, hv2⟩ : ∃ x, v1.setCell ⟨b, 3, none⟩ (.int .i64 (min ((s.h : Int) - 1) ((n : Int) - 1))) = x := ⟨_, rfl⟩
  have Hv2 : Hid (ScrAt lo b 0 ({ s with y := min s.h n - 1 } : Scr) g cc ah dh v2) := Lib.hid (by rw [← hv2]; exact Hv1.out.setv3 (min s.h n - 1) (by omega))
  have HUv2 : Hid (Upd b 0 (0 + 12) (fun k => k = g ∨ k ∈ blkOf ah) w v2) := Lib.hid (by rw [← hv2]; exact HUv1.out.set3 _)
  have HCv2 : Hid (Ch (· = b) v1 v2) := Lib.hid (by rw [← hv2]; exact Ch.set1' _ _ _ _)
  rw [hv2]
  have qnn_0 : v2.cell? ⟨w.heap.size, 0, none⟩ = some (.int .i64 kd) := (HCv2.out.cell (p := ⟨w.heap.size, 0, none⟩) qn_l q_b).trans qn_0
  have qnn_1 : v2.cell? ⟨w.heap.size, 1, none⟩ = some (.int .i64 72) := (HCv2.out.cell (p := ⟨w.heap.size, 1, none⟩) qn_l q_b).trans qn_1
  have qnn_2 : v2.cell? ⟨w.heap.size, 2, none⟩ = some (.bool false) := (HCv2.out.cell (p := ⟨w.heap.size, 2, none⟩) qn_l q_b).trans qn_2
  have qnn_3 : v2.cell? ⟨w.heap.size, 3, none⟩ = some (.slice aa ln ca) := (HCv2.out.cell (p := ⟨w.heap.size, 3, none⟩) qn_l q_b).trans qn_3
  have qnn_4 : v2.cell? ⟨w.heap.size, 4, none⟩ = some (.string tx) := (HCv2.out.cell (p := ⟨w.heap.size, 4, none⟩) qn_l q_b).trans qn_4
  have qnn_l := Nat.lt_of_lt_of_le qn_l HCv2.out.size
  clear qn_0 qn_1 qn_2 qn_3 qn_4 qn_l
  have HA2nn := Lib.hid (Sl.ch HA2n.out HCv2.out HA2_nb)
  clear hv2 k_f k_l k_0 k_1 k_2 k_3 k_4 k_5 k_6 k_7 k_8 k_9 k_10 k_11
  have k_0 := Hv2.out.e0
  have k_1 := Hv2.out.e1
  have k_2 := Hv2.out.e2
  have k_3 : v2.cell? ⟨b, 3, none⟩ = some (.int .i64 ((min s.h n - 1 : Nat) : Int)) := Hv2.out.c3
  have k_4 := Hv2.out.e4
  have k_5 := Hv2.out.e5
  have k_6 := Hv2.out.e6
  have k_7 := Hv2.out.e7
  have k_8 := Hv2.out.e8
  have k_9 := Hv2.out.e9
  have k_10 := Hv2.out.e10
  have k_11 := Hv2.out.e11
  have k_f := Hv2.out.fz
  have k_l := Hv2.out.lt
  have hSc2 := And.intro k_0 (And.intro qnn_0 (And.intro qnn_1 (And.intro qnn_2 (And.intro qnn_3 qnn_4))))
  refine wp_region_O (fun w' => w'.cell? ⟨b, 0, none⟩ = some (.int .i64 (s.w : Int)) ∧ w'.cell? ⟨w.heap.size, 0, none⟩ = some (.int .i64 kd) ∧ w'.cell? ⟨w.heap.size, 1, none⟩ = some (.int .i64 72) ∧ w'.cell? ⟨w.heap.size, 2, none⟩ = some (.bool false) ∧ w'.cell? ⟨w.heap.size, 3, none⟩ = some (.slice aa ln ca) ∧ w'.cell? ⟨w.heap.size, 4, none⟩ = some (.string tx)) [13] [0,1,2,3,4,5,6,7,8,9,10,11,12,13] ?_
  iterate 7 (first | refine oW (h := ?_) | refine oL (hS := hSc2) (h := ?_))
  refine oO (hS := .inr hSc2) (h := ?_)
  intro K' hK
  go_simp
  refine (HCALL 1 1 _ (by omega) (HA2nn.out.keep ((Below.refl _ _).drew))).mono ?_
  rintro e x1 ⟨rfl, hb1⟩
  rw [HA1.out]
  have HB1 : Hid (Below v2.heap.size v2 x1) := Lib.hid (((Below.refl _ _).drew).trans hb1)
  have HX1 := Lib.hid (Hv2.out.below HB1.out)
  have e_0 := HX1.out.c0
  have e_2 := HX1.out.c2
  have e_f := HX1.out.fz
  have e_l := HX1.out.lt
  have hSx : x1.cell? ⟨b, 0, none⟩ = some (.int .i64 (s.w : Int)) ∧ x1.cell? ⟨w.heap.size, 0, none⟩ = some (.int .i64 kd) ∧ x1.cell? ⟨w.heap.size, 1, none⟩ = some (.int .i64 72) ∧ x1.cell? ⟨w.heap.size, 2, none⟩ = some (.bool false) ∧ x1.cell? ⟨w.heap.size, 3, none⟩ = some (.slice aa ln ca) ∧ x1.cell? ⟨w.heap.size, 4, none⟩ = some (.string tx) := ⟨HX1.out.c0, (HB1.out.cell (p := ⟨w.heap.size, 0, none⟩) qnn_l).trans qnn_0, (HB1.out.cell (p := ⟨w.heap.size, 1, none⟩) qnn_l).trans qnn_1, (HB1.out.cell (p := ⟨w.heap.size, 2, none⟩) qnn_l).trans qnn_2, (HB1.out.cell (p := ⟨w.heap.size, 3, none⟩) qnn_l).trans qnn_3, (HB1.out.cell (p := ⟨w.heap.size, 4, none⟩) qnn_l).trans qnn_4⟩
  clear hb1
  refine oN hK (hS := .inr hSx) (h := ?_)
  clear hK K'
  iterate 5 refine oW (h := ?_)
  refine oO (hS := .inl rfl) (h := ?_)
  intro K' hK
  go_simp
  refine oN hK (hS := .inl rfl) (h := ?_)
  clear hK K'
  refine oD ?_
  go_wp2_with fail
  first | refine bodyPost_end (v := .tuple #[]) (by simp [results, Tryz.results82]) rfl ?_ | refine bodyPost_ret (v := .tuple #[]) (by simp [results, Tryz.results82]) rfl ?_
  refine ⟨rfl, ?_⟩
  unfold csiS
  rw [if_neg (by decide), if_neg (by decide), if_neg (by decide), if_neg (by decide), if_pos (by decide)]
  rw [HN.out, HN1.out]
  refine ScrR.mk (cc := cc) (dh := dh) ?_ ?_
  · repeat (with_reducible refine ScrAt.drew ?_)
    exact HX1.out.setv2 _ (by omega)
  · repeat (with_reducible refine Upd.drew ?_)
    exact (HUv2.out.below HB1.out Hv2.out.lt).set2 _
theorem csi102_c (lo b : Nat) (s : Scr) (g cc : Nat) (ah : Option Addr) (dh : Nat) (w : World) (kd : Int) (xs : List Int) (aa : Option Addr) (ca : Nat) (tx : ByteArray) (h : ScrAt lo b 0 s g cc ah dh w) (ok : ScrOK s) (hlo : lo ≤ w.heap.size) (ha : Sl intE 1 w aa xs) (hna : ∀ k ∈ blkOf aa, k ≠ b ∧ k ≠ g ∧ k ∉ blkOf ah) (hx8 : xs.length ≤ 8) (hxr : ∀ x ∈ xs, -1 ≤ x ∧ x ≤ 9999) :
    Calls Tryz.prog 82 #[.pointer (some ⟨b, 0, none⟩), .agg #[.int .i64 kd, .int .i64 102, .bool false, .slice aa xs.length ca, .string tx]] w fun e w' => e = .returned (.tuple #[]) ∧ ScrR lo b 0 (csiS s 102 xs) g ah w w' := by
  have HS := Lib.hid h
  have HOK := Lib.hid ok
  have HA := Lib.hid ha
  have HNA := Lib.hid hna
  have HXR := Lib.hid hxr
  have HX8 := Lib.hid hx8
  have hw1 := ok.w1
  have hw2 := ok.w2
  have hh1 := ok.h1
  have hh2 := ok.h2
  have hx := ok.hx
  have hy := ok.hy
  have hcur := ok.cur
  have hcn := ok.cn
  have hlt := h.lt
  obtain ⟨n, hn⟩ : ∃ n, arg1 xs 0 = n := ⟨_, rfl⟩
  obtain ⟨A0, hA0⟩ : ∃ a, argA xs 0 1 = a := ⟨_, rfl⟩
  have hAb : -1 ≤ A0 ∧ A0 ≤ 9999 := by rw [← hA0]; exact argA_bd HXR.out (by omega) (by omega)
  have hm : max 1 A0 = (n : Int) := by rw [← hn, ← hA0]; unfold arg1; omega
  have hn1 : 1 ≤ n := by omega
  have hn2 : n ≤ 9999 := by omega
  have HN := Lib.hid hn
  have HA0 := Lib.hid hA0
  obtain ⟨p, hp⟩ : ∃ p, s.y * s.w = p := ⟨_, rfl⟩
  obtain ⟨mx, hmx⟩ : ∃ m, min s.x (s.w - 1) = m := ⟨_, rfl⟩
  obtain ⟨cr, hcr⟩ : ∃ c, curS s = c := ⟨_, rfl⟩
  obtain ⟨pn, hpn⟩ : ∃ q, (s.y + 1) * s.w = q := ⟨_, rfl⟩
  obtain ⟨nn, hnn⟩ : ∃ q, s.w * s.h = q := ⟨_, rfl⟩
  have hpi : (s.y : Int) * (s.w : Int) = (p : Int) := by rw [← hp]; exact (Int.natCast_mul _ _).symm
  have hpni : ((s.y : Int) + 1) * (s.w : Int) = (pn : Int) := by rw [← hpn]; exact (Int.natCast_mul (s.y + 1) s.w).symm
  have hnni : (s.w : Int) * (s.h : Int) = (nn : Int) := by rw [← hnn]; exact (Int.natCast_mul _ _).symm
  have hmi : min (s.x : Int) ((s.w : Int) - 1) = (mx : Int) := by omega
  have hcri : (p : Int) + (mx : Int) = (cr : Int) := by rw [← hcr, ← hp, ← hmx]; unfold curS; omega
  have hn240 : nn ≤ 240 := by rw [← hnn]; exact Nat.mul_le_mul hw2 hh2
  rw [hcr, hp, hpn, hnn] at hcur
  rw [hnn] at hcn
  obtain ⟨hc1, hc2, hc3⟩ := hcur
  have HCN := Lib.hid hcn
  have HP := Lib.hid hp
  have HMX := Lib.hid hmx
  have HCR := Lib.hid hcr
  have HPN := Lib.hid hpn
  have HNN := Lib.hid hnn
  have hwA : IntKind.i64.wrap ((s.w : Int) - 1) = (s.w : Int) - 1 := IntWalk.i64_in _ ⟨by omega, by omega⟩
  have hwB : IntKind.i64.wrap (p : Int) = (p : Int) := IntWalk.i64_in _ ⟨by omega, by omega⟩
  have hwC : IntKind.i64.wrap (cr : Int) = (cr : Int) := IntWalk.i64_in _ ⟨by omega, by omega⟩
  have hwD : IntKind.i64.wrap (pn : Int) = (pn : Int) := IntWalk.i64_in _ ⟨by omega, by omega⟩
  have hwE : IntKind.i64.wrap (nn : Int) = (nn : Int) := IntWalk.i64_in _ ⟨by omega, by omega⟩
  have hwF : IntKind.i64.wrap ((s.y : Int) + 1) = (s.y : Int) + 1 := IntWalk.i64_in _ ⟨by omega, by omega⟩
  have hwG : IntKind.i64.wrap ((cr : Int) + 1) = (cr : Int) + 1 := IntWalk.i64_in _ ⟨by omega, by omega⟩
  obtain ⟨ln, hln⟩ : ∃ l, xs.length = l := ⟨_, rfl⟩
  have HLN := Lib.hid hln
  have HCALL : ∀ (i : Nat) (d : Int) (W : World), i ≤ 7 → Sl intE 1 W aa xs → Calls Tryz.prog 117 #[.agg #[.int .i64 kd, .int .i64 102, .bool false, .slice aa ln ca, .string tx], .int .i64 i, .int .i64 d] W fun e w' => e = .returned (.int .i64 (argA xs i d)) ∧ Below W.heap.size W w' := fun i d W hi hW => by
    rw [← hln]
    exact l03ArgG_c kd 102 false tx xs aa ca i d W hW hi hx8
  rw [hln]
  clear h ok ha hna hxr hx8 hn hA0 hp hmx hcr hpn hnn hcn hln
  go_enter Tryz.func82, Tryz.ntmps82
  go_wp2_with fail
  refine (HCALL 0 1 _ (by omega) (HA.out.alloc _)).mono ?_
  rintro e v0 ⟨rfl, hb0⟩
  rw [HA0.out]
  have HB0 : Hid (Below w.heap.size w v0) := Lib.hid (((Below.refl w.heap.size w).alloc (Nat.le_refl _) _).trans (hb0.mono (by simp)))
  have hz0 := HB0.out.size
  have q_l : w.heap.size < v0.heap.size := by have := hb0.size; simp at this; omega
  have q_0 : v0.cell? ⟨w.heap.size, 0, none⟩ = some (.int .i64 kd) := kC hb0 (by simp) (by simp [go_sem])
  have q_1 : v0.cell? ⟨w.heap.size, 1, none⟩ = some (.int .i64 102) := kC hb0 (by simp) (by simp [go_sem])
  have q_2 : v0.cell? ⟨w.heap.size, 2, none⟩ = some (.bool false) := kC hb0 (by simp) (by simp [go_sem])
  have q_3 : v0.cell? ⟨w.heap.size, 3, none⟩ = some (.slice aa ln ca) := kC hb0 (by simp) (by simp [go_sem])
  have q_4 : v0.cell? ⟨w.heap.size, 4, none⟩ = some (.string tx) := kC hb0 (by simp) (by simp [go_sem])
  clear hb0
  have q_b : ¬ w.heap.size = b := by omega
  have HA_nb : ∀ k ∈ blkOf aa, ¬ k = b := fun k hk => (HNA.out k hk).1
  have Hv0 := Lib.hid (HS.out.below HB0.out)
  have HA2 := Lib.hid (HA.out.keep HB0.out)
  have HUv0 : Hid (Upd b 0 (0 + 12) (fun k => k = g ∨ k ∈ blkOf ah) w v0) := Lib.hid (Upd.refl'.below HB0.out HS.out.lt)
  have HA2_nb := HA_nb
  have k_0 := Hv0.out.e0
  have k_1 := Hv0.out.e1
  have k_2 := Hv0.out.e2
  have k_3 := Hv0.out.e3
  have k_4 := Hv0.out.e4
  have k_5 := Hv0.out.e5
  have k_6 := Hv0.out.e6
  have k_7 := Hv0.out.e7
  have k_8 := Hv0.out.e8
  have k_9 := Hv0.out.e9
  have k_10 := Hv0.out.e10
  have k_11 := Hv0.out.e11
  have k_f := Hv0.out.fz
  have k_l := Hv0.out.lt
  go_upto_region 4 with fail
  have hSc1 := And.intro k_0 (And.intro k_2 k_3)
  refine wp_region_O (fun w' => w'.cell? ⟨b, 0, none⟩ = some (.int .i64 (s.w : Int)) ∧ w'.cell? ⟨b, 2, none⟩ = some (.int .i64 (s.x : Int)) ∧ w'.cell? ⟨b, 3, none⟩ = some (.int .i64 (s.y : Int))) [] [0,1,2,3,4,5,6,7,8,9,10,11,12,13,14,15,16,17,18,19,20] ?_
  iterate 21 (first | refine oW (h := ?_) | refine oL (hS := hSc1) (h := ?_))
  refine oD ?_
  obtain ⟨v1, hv1⟩ : ∃ x, v0.drew = x := ⟨_, rfl⟩
  have HBv1 : Hid (Below v0.heap.size v0 v1) := Lib.hid (by rw [← hv1]; exact (Below.refl _ _).drew)
  rw [hv1]
  have hzv1 := HBv1.out.size
  have Hv1 := Lib.hid (Hv0.out.below HBv1.out)
  have HUv1 : Hid (Upd b 0 (0 + 12) (fun k => k = g ∨ k ∈ blkOf ah) w v1) := Lib.hid (HUv0.out.below HBv1.out Hv0.out.lt)
  have qn_0 := kC HBv1.out q_l q_0
  have qn_1 := kC HBv1.out q_l q_1
  have qn_2 := kC HBv1.out q_l q_2
  have qn_3 := kC HBv1.out q_l q_3
  have qn_4 := kC HBv1.out q_l q_4
  have qn_l := Nat.lt_of_lt_of_le q_l HBv1.out.size
  clear q_0 q_1 q_2 q_3 q_4 q_l
  have HA2n := Lib.hid (HA2.out.keep HBv1.out)
  clear k_f k_l k_0 k_1 k_2 k_3 k_4 k_5 k_6 k_7 k_8 k_9 k_10 k_11 hv1 hSc1
  have k_0 := Hv1.out.e0
  have k_1 := Hv1.out.e1
  have k_2 := Hv1.out.e2
  have k_3 := Hv1.out.e3
  have k_4 := Hv1.out.e4
  have k_5 := Hv1.out.e5
  have k_6 := Hv1.out.e6
  have k_7 := Hv1.out.e7
  have k_8 := Hv1.out.e8
  have k_9 := Hv1.out.e9
  have k_10 := Hv1.out.e10
  have k_11 := Hv1.out.e11
  have k_f := Hv1.out.fz
  have k_l := Hv1.out.lt
  have hwJ : IntKind.i64.wrap ((s.h : Int) - 1) = (s.h : Int) - 1 := IntWalk.i64_in _ ⟨by omega, by omega⟩
  have hwK : IntKind.i64.wrap ((n : Int) - 1) = (n : Int) - 1 := IntWalk.i64_in _ ⟨by omega, by omega⟩
  obtain ⟨n1, hN1⟩ : ∃ n, arg1 xs 1 = n := ⟨_, rfl⟩
  obtain ⟨A1, hA1⟩ : ∃ a, argA xs 1 1 = a := ⟨_, rfl⟩
  have hA1b : -1 ≤ A1 ∧ A1 ≤ 9999 := by rw [← hA1]; exact argA_bd HXR.out (by omega) (by omega)
  have hm1 : max 1 A1 = (n1 : Int) := by rw [← hN1, ← hA1]; unfold arg1; omega
  have hwL : IntKind.i64.wrap ((n1 : Int) - 1) = (n1 : Int) - 1 := IntWalk.i64_in _ ⟨by omega, by omega⟩
  have HN1 := Lib.hid hN1
  have HA1 := Lib.hid hA1
  clear hN1 hA1
  go_upto_region 17 with fail
  obtain ⟨v2, hv2⟩ : ∃ x, v1.setCell ⟨b, 3, none⟩ (.int .i64 (min ((s.h : Int) - 1) ((n : Int) - 1))) = x := ⟨_, rfl⟩
  have Hv2 : Hid (ScrAt lo b 0 ({ s with y := min s.h n - 1 } : Scr) g cc ah dh v2) := Lib.hid (by rw [← hv2]; exact Hv1.out.setv3 (min s.h n - 1) (by omega))
  have HUv2 : Hid (Upd b 0 (0 + 12) (fun k => k = g ∨ k ∈ blkOf ah) w v2) := Lib.hid (by rw [← hv2]; exact HUv1.out.set3 _)
  have HCv2 : Hid (Ch (· = b) v1 v2) := Lib.hid (by rw [← hv2]; exact Ch.set1' _ _ _ _)
  rw [hv2]
  have qnn_0 : v2.cell? ⟨w.heap.size, 0, none⟩ = some (.int .i64 kd) := (HCv2.out.cell (p := ⟨w.heap.size, 0, none⟩) qn_l q_b).trans qn_0
  have qnn_1 : v2.cell? ⟨w.heap.size, 1, none⟩ = some (.int .i64 102) := (HCv2.out.cell (p := ⟨w.heap.size, 1, none⟩) qn_l q_b).trans qn_1
  have qnn_2 : v2.cell? ⟨w.heap.size, 2, none⟩ = some (.bool false) := (HCv2.out.cell (p := ⟨w.heap.size, 2, none⟩) qn_l q_b).trans qn_2
  have qnn_3 : v2.cell? ⟨w.heap.size, 3, none⟩ = some (.slice aa ln ca) := (HCv2.out.cell (p := ⟨w.heap.size, 3, none⟩) qn_l q_b).trans qn_3
  have qnn_4 : v2.cell? ⟨w.heap.size, 4, none⟩ = some (.string tx) := (HCv2.out.cell (p := ⟨w.heap.size, 4, none⟩) qn_l q_b).trans qn_4
  have qnn_l := Nat.lt_of_lt_of_le qn_l HCv2.out.size
  clear qn_0 qn_1 qn_2 qn_3 qn_4 qn_l
  have HA2nn := Lib.hid (Sl.ch HA2n.out HCv2.out HA2_nb)
  clear hv2 k_f k_l k_0 k_1 k_2 k_3 k_4 k_5 k_6 k_7 k_8 k_9 k_10 k_11
  have k_0 := Hv2.out.e0
  have k_1 := Hv2.out.e1
  have k_2 := Hv2.out.e2
  have k_3 : v2.cell? ⟨b, 3, none⟩ = some (.int .i64 ((min s.h n - 1 : Nat) : Int)) := Hv2.out.c3
  have k_4 := Hv2.out.e4
  have k_5 := Hv2.out.e5
  have k_6 := Hv2.out.e6
  have k_7 := Hv2.out.e7
  have k_8 := Hv2.out.e8
  have k_9 := Hv2.out.e9
  have k_10 := Hv2.out.e10
  have k_11 := Hv2.out.e11
  have k_f := Hv2.out.fz
  have k_l := Hv2.out.lt
  have hSc2 := And.intro k_0 (And.intro qnn_0 (And.intro qnn_1 (And.intro qnn_2 (And.intro qnn_3 qnn_4))))
  refine wp_region_O (fun w' => w'.cell? ⟨b, 0, none⟩ = some (.int .i64 (s.w : Int)) ∧ w'.cell? ⟨w.heap.size, 0, none⟩ = some (.int .i64 kd) ∧ w'.cell? ⟨w.heap.size, 1, none⟩ = some (.int .i64 102) ∧ w'.cell? ⟨w.heap.size, 2, none⟩ = some (.bool false) ∧ w'.cell? ⟨w.heap.size, 3, none⟩ = some (.slice aa ln ca) ∧ w'.cell? ⟨w.heap.size, 4, none⟩ = some (.string tx)) [13] [0,1,2,3,4,5,6,7,8,9,10,11,12,13] ?_
  iterate 7 (first | refine oW (h := ?_) | refine oL (hS := hSc2) (h := ?_))
  refine oO (hS := .inr hSc2) (h := ?_)
  intro K' hK
  go_simp
  refine (HCALL 1 1 _ (by omega) (HA2nn.out.keep ((Below.refl _ _).drew))).mono ?_
  rintro e x1 ⟨rfl, hb1⟩
  rw [HA1.out]
  have HB1 : Hid (Below v2.heap.size v2 x1) := Lib.hid (((Below.refl _ _).drew).trans hb1)
  have HX1 := Lib.hid (Hv2.out.below HB1.out)
  have e_0 := HX1.out.c0
  have e_2 := HX1.out.c2
  have e_f := HX1.out.fz
  have e_l := HX1.out.lt
  have hSx : x1.cell? ⟨b, 0, none⟩ = some (.int .i64 (s.w : Int)) ∧ x1.cell? ⟨w.heap.size, 0, none⟩ = some (.int .i64 kd) ∧ x1.cell? ⟨w.heap.size, 1, none⟩ = some (.int .i64 102) ∧ x1.cell? ⟨w.heap.size, 2, none⟩ = some (.bool false) ∧ x1.cell? ⟨w.heap.size, 3, none⟩ = some (.slice aa ln ca) ∧ x1.cell? ⟨w.heap.size, 4, none⟩ = some (.string tx) := ⟨HX1.out.c0, (HB1.out.cell (p := ⟨w.heap.size, 0, none⟩) qnn_l).trans qnn_0, (HB1.out.cell (p := ⟨w.heap.size, 1, none⟩) qnn_l).trans qnn_1, (HB1.out.cell (p := ⟨w.heap.size, 2, none⟩) qnn_l).trans qnn_2, (HB1.out.cell (p := ⟨w.heap.size, 3, none⟩) qnn_l).trans qnn_3, (HB1.out.cell (p := ⟨w.heap.size, 4, none⟩) qnn_l).trans qnn_4⟩
  clear hb1
  refine oN hK (hS := .inr hSx) (h := ?_)
  clear hK K'
  iterate 5 refine oW (h := ?_)
  refine oO (hS := .inl rfl) (h := ?_)
  intro K' hK
  go_simp
  refine oN hK (hS := .inl rfl) (h := ?_)
  clear hK K'
  refine oD ?_
  go_wp2_with fail
  first | refine bodyPost_end (v := .tuple #[]) (by simp [results, Tryz.results82]) rfl ?_ | refine bodyPost_ret (v := .tuple #[]) (by simp [results, Tryz.results82]) rfl ?_
  refine ⟨rfl, ?_⟩
  unfold csiS
  rw [if_neg (by decide), if_neg (by decide), if_neg (by decide), if_neg (by decide), if_pos (by decide)]
  rw [HN.out, HN1.out]
  refine ScrR.mk (cc := cc) (dh := dh) ?_ ?_
  · repeat (with_reducible refine ScrAt.drew ?_)
    exact HX1.out.setv2 _ (by omega)
  · repeat (with_reducible refine Upd.drew ?_)
    exact (HUv2.out.below HB1.out Hv2.out.lt).set2 _
end
section
open Go.RowKit
theorem csi74_c (lo b : Nat) (s : Scr) (g cc : Nat) (ah : Option Addr) (dh : Nat) (w : World) (kd : Int) (xs : List Int) (aa : Option Addr) (ca : Nat) (tx : ByteArray) (h : ScrAt lo b 0 s g cc ah dh w) (ok : ScrOK s) (hlo : lo ≤ w.heap.size) (ha : Sl intE 1 w aa xs) (hna : ∀ k ∈ blkOf aa, k ≠ b ∧ k ≠ g ∧ k ∉ blkOf ah) (hx8 : xs.length ≤ 8) (hxr : ∀ x ∈ xs, -1 ≤ x ∧ x ≤ 9999) :
    Calls Tryz.prog 82 #[.pointer (some ⟨b, 0, none⟩), .agg #[.int .i64 kd, .int .i64 74, .bool false, .slice aa xs.length ca, .string tx]] w fun e w' => e = .returned (.tuple #[]) ∧ ScrR lo b 0 (csiS s 74 xs) g ah w w' := by
  have HS := Lib.hid h
  have HOK := Lib.hid ok
  have HA := Lib.hid ha
  have HNA := Lib.hid hna
  have HXR := Lib.hid hxr
  have HX8 := Lib.hid hx8
  have hw1 := ok.w1
  have hw2 := ok.w2
  have hh1 := ok.h1
  have hh2 := ok.h2
  have hx := ok.hx
  have hy := ok.hy
  have hcur := ok.cur
  have hcn := ok.cn
  have hlt := h.lt
  obtain ⟨n, hn⟩ : ∃ n, arg1 xs 0 = n := ⟨_, rfl⟩
  obtain ⟨A0, hA0⟩ : ∃ a, argA xs 0 1 = a := ⟨_, rfl⟩
  have hAb : -1 ≤ A0 ∧ A0 ≤ 9999 := by rw [← hA0]; exact argA_bd HXR.out (by omega) (by omega)
  have hm : max 1 A0 = (n : Int) := by rw [← hn, ← hA0]; unfold arg1; omega
  have hn1 : 1 ≤ n := by omega
  have hn2 : n ≤ 9999 := by omega
  have HN := Lib.hid hn
  have HA0 := Lib.hid hA0
  obtain ⟨p, hp⟩ : ∃ p, s.y * s.w = p := ⟨_, rfl⟩
  obtain ⟨mx, hmx⟩ : ∃ m, min s.x (s.w - 1) = m := ⟨_, rfl⟩
  obtain ⟨cr, hcr⟩ : ∃ c, curS s = c := ⟨_, rfl⟩
  obtain ⟨pn, hpn⟩ : ∃ q, (s.y + 1) * s.w = q := ⟨_, rfl⟩
  obtain ⟨nn, hnn⟩ : ∃ q, s.w * s.h = q := ⟨_, rfl⟩
  have hpi : (s.y : Int) * (s.w : Int) = (p : Int) := by rw [← hp]; exact (Int.natCast_mul _ _).symm
  have hpni : ((s.y : Int) + 1) * (s.w : Int) = (pn : Int) := by rw [← hpn]; exact (Int.natCast_mul (s.y + 1) s.w).symm
  have hnni : (s.w : Int) * (s.h : Int) = (nn : Int) := by rw [← hnn]; exact (Int.natCast_mul _ _).symm
  have hmi : min (s.x : Int) ((s.w : Int) - 1) = (mx : Int) := by omega
  have hcri : (p : Int) + (mx : Int) = (cr : Int) := by rw [← hcr, ← hp, ← hmx]; unfold curS; omega
  have hn240 : nn ≤ 240 := by rw [← hnn]; exact Nat.mul_le_mul hw2 hh2
  rw [hcr, hp, hpn, hnn] at hcur
  rw [hnn] at hcn
  obtain ⟨hc1, hc2, hc3⟩ := hcur
  have HCN := Lib.hid hcn
  have HP := Lib.hid hp
  have HMX := Lib.hid hmx
  have HCR := Lib.hid hcr
  have HPN := Lib.hid hpn
  have HNN := Lib.hid hnn
  have hwA : IntKind.i64.wrap ((s.w : Int) - 1) = (s.w : Int) - 1 := IntWalk.i64_in _ ⟨by omega, by omega⟩
  have hwB : IntKind.i64.wrap (p : Int) = (p : Int) := IntWalk.i64_in _ ⟨by omega, by omega⟩
  have hwC : IntKind.i64.wrap (cr : Int) = (cr : Int) := IntWalk.i64_in _ ⟨by omega, by omega⟩
  have hwD : IntKind.i64.wrap (pn : Int) = (pn : Int) := IntWalk.i64_in _ ⟨by omega, by omega⟩
  have hwE : IntKind.i64.wrap (nn : Int) = (nn : Int) := IntWalk.i64_in _ ⟨by omega, by omega⟩
  have hwF : IntKind.i64.wrap ((s.y : Int) + 1) = (s.y : Int) + 1 := IntWalk.i64_in _ ⟨by omega, by omega⟩
  have hwG : IntKind.i64.wrap ((cr : Int) + 1) = (cr : Int) + 1 := IntWalk.i64_in _ ⟨by omega, by omega⟩
  obtain ⟨ln, hln⟩ : ∃ l, xs.length = l := ⟨_, rfl⟩
  have HLN := Lib.hid hln
  have HCALL : ∀ (i : Nat) (d : Int) (W : World), i ≤ 7 → Sl intE 1 W aa xs → Calls Tryz.prog 117 #[.agg #[.int .i64 kd, .int .i64 74, .bool false, .slice aa ln ca, .string tx], .int .i64 i, .int .i64 d] W fun e w' => e = .returned (.int .i64 (argA xs i d)) ∧ Below W.heap.size W w' := fun i d W hi hW => by
    rw [← hln]
    exact l03ArgG_c kd 74 false tx xs aa ca i d W hW hi hx8
  rw [hln]
  clear h ok ha hna hxr hx8 hn hA0 hp hmx hcr hpn hnn hcn hln
  go_enter Tryz.func82, Tryz.ntmps82
  go_wp2_with fail
  refine (HCALL 0 1 _ (by omega) (HA.out.alloc _)).mono ?_
  rintro e v0 ⟨rfl, hb0⟩
  rw [HA0.out]
  have HB0 : Hid (Below w.heap.size w v0) := Lib.hid (((Below.refl w.heap.size w).alloc (Nat.le_refl _) _).trans (hb0.mono (by simp)))
  have hz0 := HB0.out.size
  have q_l : w.heap.size < v0.heap.size := by have := hb0.size; simp at this; omega
  have q_0 : v0.cell? ⟨w.heap.size, 0, none⟩ = some (.int .i64 kd) := kC hb0 (by simp) (by simp [go_sem])
  have q_1 : v0.cell? ⟨w.heap.size, 1, none⟩ = some (.int .i64 74) := kC hb0 (by simp) (by simp [go_sem])
  have q_2 : v0.cell? ⟨w.heap.size, 2, none⟩ = some (.bool false) := kC hb0 (by simp) (by simp [go_sem])
  have q_3 : v0.cell? ⟨w.heap.size, 3, none⟩ = some (.slice aa ln ca) := kC hb0 (by simp) (by simp [go_sem])
  have q_4 : v0.cell? ⟨w.heap.size, 4, none⟩ = some (.string tx) := kC hb0 (by simp) (by simp [go_sem])
  clear hb0
  have q_b : ¬ w.heap.size = b := by omega
  have HA_nb : ∀ k ∈ blkOf aa, ¬ k = b := fun k hk => (HNA.out k hk).1
  have Hv0 := Lib.hid (HS.out.below HB0.out)
  have HA2 := Lib.hid (HA.out.keep HB0.out)
  have HUv0 : Hid (Upd b 0 (0 + 12) (fun k => k = g ∨ k ∈ blkOf ah) w v0) := Lib.hid (Upd.refl'.below HB0.out HS.out.lt)
  have HA2_nb := HA_nb
  have k_0 := Hv0.out.e0
  have k_1 := Hv0.out.e1
  have k_2 := Hv0.out.e2
  have k_3 := Hv0.out.e3
  have k_4 := Hv0.out.e4
  have k_5 := Hv0.out.e5
  have k_6 := Hv0.out.e6
  have k_7 := Hv0.out.e7
  have k_8 := Hv0.out.e8
  have k_9 := Hv0.out.e9
  have k_10 := Hv0.out.e10
  have k_11 := Hv0.out.e11
  have k_f := Hv0.out.fz
  have k_l := Hv0.out.lt
  go_upto_region 4 with fail
  have hSc1 := And.intro k_0 (And.intro k_2 k_3)
  refine wp_region_O (fun w' => w'.cell? ⟨b, 0, none⟩ = some (.int .i64 (s.w : Int)) ∧ w'.cell? ⟨b, 2, none⟩ = some (.int .i64 (s.x : Int)) ∧ w'.cell? ⟨b, 3, none⟩ = some (.int .i64 (s.y : Int))) [] [0,1,2,3,4,5,6,7,8,9,10,11,12,13,14,15,16,17,18,19,20] ?_
  iterate 21 (first | refine oW (h := ?_) | refine oL (hS := hSc1) (h := ?_))
  refine oD ?_
  obtain ⟨v1, hv1⟩ : ∃ x, v0.drew = x := ⟨_, rfl⟩
  have HBv1 : Hid (Below v0.heap.size v0 v1) := Lib.hid (by rw [← hv1]; exact (Below.refl _ _).drew)
  rw [hv1]
  have hzv1 := HBv1.out.size
  have Hv1 := Lib.hid (Hv0.out.below HBv1.out)
  have HUv1 : Hid (Upd b 0 (0 + 12) (fun k => k = g ∨ k ∈ blkOf ah) w v1) := Lib.hid (HUv0.out.below HBv1.out Hv0.out.lt)
  have qn_0 := kC HBv1.out q_l q_0
  have qn_1 := kC HBv1.out q_l q_1
  have qn_2 := kC HBv1.out q_l q_2
  have qn_3 := kC HBv1.out q_l q_3
  have qn_4 := kC HBv1.out q_l q_4
  have qn_l := Nat.lt_of_lt_of_le q_l HBv1.out.size
  clear q_0 q_1 q_2 q_3 q_4 q_l
  have HA2n := Lib.hid (HA2.out.keep HBv1.out)
  clear k_f k_l k_0 k_1 k_2 k_3 k_4 k_5 k_6 k_7 k_8 k_9 k_10 k_11 hv1 hSc1
  have k_0 := Hv1.out.e0
  have k_1 := Hv1.out.e1
  have k_2 := Hv1.out.e2
  have k_3 := Hv1.out.e3
  have k_4 := Hv1.out.e4
  have k_5 := Hv1.out.e5
  have k_6 := Hv1.out.e6
  have k_7 := Hv1.out.e7
  have k_8 := Hv1.out.e8
  have k_9 := Hv1.out.e9
  have k_10 := Hv1.out.e10
  have k_11 := Hv1.out.e11
  have k_f := Hv1.out.fz
  have k_l := Hv1.out.lt
  obtain ⟨D, hD⟩ : ∃ a, argA xs 0 0 = a := ⟨_, rfl⟩
  have HD := Lib.hid hD
  clear hD
  go_wp2_with fail
  refine (HCALL 0 0 _ (by omega) HA2n.out).mono ?_
  rw [HD.out]
  rintro e v2 ⟨rfl, hbv2⟩
  have HBv2 := Lib.hid hbv2
  have hzv2 := HBv2.out.size
  have Hv2 := Lib.hid (Hv1.out.below HBv2.out)
  have HUv2 : Hid (Upd b 0 (0 + 12) (fun k => k = g ∨ k ∈ blkOf ah) w v2) := Lib.hid (HUv1.out.below HBv2.out Hv1.out.lt)
  have qnn_0 := kC HBv2.out qn_l qn_0
  have qnn_1 := kC HBv2.out qn_l qn_1
  have qnn_2 := kC HBv2.out qn_l qn_2
  have qnn_3 := kC HBv2.out qn_l qn_3
  have qnn_4 := kC HBv2.out qn_l qn_4
  have qnn_l := Nat.lt_of_lt_of_le qn_l HBv2.out.size
  clear qn_0 qn_1 qn_2 qn_3 qn_4 qn_l
  have HA2nn := Lib.hid (HA2n.out.keep HBv2.out)
  clear k_f k_l k_0 k_1 k_2 k_3 k_4 k_5 k_6 k_7 k_8 k_9 k_10 k_11 hbv2
  have k_0 := Hv2.out.e0
  have k_1 := Hv2.out.e1
  have k_2 := Hv2.out.e2
  have k_3 := Hv2.out.e3
  have k_4 := Hv2.out.e4
  have k_5 := Hv2.out.e5
  have k_6 := Hv2.out.e6
  have k_7 := Hv2.out.e7
  have k_8 := Hv2.out.e8
  have k_9 := Hv2.out.e9
  have k_10 := Hv2.out.e10
  have k_11 := Hv2.out.e11
  have k_f := Hv2.out.fz
  have k_l := Hv2.out.lt
  by_cases hd0 : D = 0
  · subst hd0
    go_upto_region 21 with fail
    have hSc2 := And.intro k_0 k_1
    refine wp_region_O (fun w' => w'.cell? ⟨b, 0, none⟩ = some (.int .i64 (s.w : Int)) ∧ w'.cell? ⟨b, 1, none⟩ = some (.int .i64 (s.h : Int))) [] [0,1,2,3,4,5,6,7,8,9,10,11] ?_
    iterate 11 (first | refine oW (h := ?_) | refine oL (hS := hSc2) (h := ?_))
    refine oO (hS := .inr hSc2) (h := ?_)
    intro K' hK
    go_simp
    refine (clear_c lo b s g cc ah dh _ cr nn Hv2.out.drew (by omega) (by rw [HCN.out]; omega) (by rw [HCN.out]; exact hn240)).mono ?_
    rintro e x1 ⟨rfl, hax, hcx⟩
    have HR : Hid (ScrR lo b 0 (clr cr nn s) g ah w x1) := Lib.hid (.mk hax (HUv2.out.drew.transN (Upd.ofCh (S := fun i => i = g) hcx Hv2.out.lt (fun e => HS.out.gb e.symm) (fun i hi => .inl hi)) (fun i hi => .inl (.inl hi))))
    have hSx : x1.cell? ⟨b, 0, none⟩ = some (.int .i64 (s.w : Int)) ∧ x1.cell? ⟨b, 1, none⟩ = some (.int .i64 (s.h : Int)) := ⟨hax.c0, hax.c1⟩
    clear hax hcx
    refine oN hK (hS := .inr hSx) (h := ?_)
    clear hK K'
    refine oD ?_
    go_wp2_with fail
    first | refine bodyPost_end (v := .tuple #[]) (by simp [results, Tryz.results82]) rfl ?_ | refine bodyPost_ret (v := .tuple #[]) (by simp [results, Tryz.results82]) rfl ?_
    refine ⟨rfl, ?_⟩
    unfold csiS
    rw [if_neg (by decide), if_neg (by decide), if_neg (by decide), if_neg (by decide), if_neg (by decide), if_pos (by decide)]
    have e1 : eraS s 0 0 0 = eraS s 0 0 0 := rfl
    rw [HD.out, HNN.out]
    unfold eraS
    rw [if_pos rfl]
    rw [HCR.out]
    exact HR.out
  by_cases hd1 : D = 1
  · subst hd1
    go_wp2_with fail
    refine (clear_c lo b s g cc ah dh _ 0 (cr + 1) Hv2.out (by omega) (by rw [HCN.out]; omega) (by rw [HCN.out]; exact hn240)).mono ?_
    rintro e x1 ⟨rfl, hax, hcx⟩
    have HR : Hid (ScrR lo b 0 (clr 0 (cr + 1) s) g ah w x1) := Lib.hid (.mk hax (HUv2.out.transN (Upd.ofCh (S := fun i => i = g) hcx Hv2.out.lt (fun e => HS.out.gb e.symm) (fun i hi => .inl hi)) (fun i hi => .inl (.inl hi))))
    clear hax hcx
    go_wp2_with fail
    first | refine bodyPost_end (v := .tuple #[]) (by simp [results, Tryz.results82]) rfl ?_ | refine bodyPost_ret (v := .tuple #[]) (by simp [results, Tryz.results82]) rfl ?_
    refine ⟨rfl, ?_⟩
    unfold csiS
    rw [if_neg (by decide), if_neg (by decide), if_neg (by decide), if_neg (by decide), if_neg (by decide), if_pos (by decide)]
    have e1 : eraS s 0 0 0 = eraS s 0 0 0 := rfl
    rw [HD.out, HNN.out]
    unfold eraS
    rw [if_neg (by decide), if_pos rfl]
    rw [HCR.out]
    exact HR.out
  by_cases hd2 : D = 2
  · subst hd2
    go_upto_region 25 with fail
    have hSc2 := And.intro k_0 k_1
    refine wp_region_O (fun w' => w'.cell? ⟨b, 0, none⟩ = some (.int .i64 (s.w : Int)) ∧ w'.cell? ⟨b, 1, none⟩ = some (.int .i64 (s.h : Int))) [] [0,1,2,3,4,5,6,7,8,9,10] ?_
    iterate 10 (first | refine oW (h := ?_) | refine oL (hS := hSc2) (h := ?_))
    refine oO (hS := .inr hSc2) (h := ?_)
    intro K' hK
    go_simp
    refine (clear_c lo b s g cc ah dh _ 0 nn Hv2.out.drew (by omega) (by rw [HCN.out]; omega) (by rw [HCN.out]; exact hn240)).mono ?_
    rintro e x1 ⟨rfl, hax, hcx⟩
    have HR : Hid (ScrR lo b 0 (clr 0 nn s) g ah w x1) := Lib.hid (.mk hax (HUv2.out.drew.transN (Upd.ofCh (S := fun i => i = g) hcx Hv2.out.lt (fun e => HS.out.gb e.symm) (fun i hi => .inl hi)) (fun i hi => .inl (.inl hi))))
    have hSx : x1.cell? ⟨b, 0, none⟩ = some (.int .i64 (s.w : Int)) ∧ x1.cell? ⟨b, 1, none⟩ = some (.int .i64 (s.h : Int)) := ⟨hax.c0, hax.c1⟩
    clear hax hcx
    refine oN hK (hS := .inr hSx) (h := ?_)
    clear hK K'
    refine oD ?_
    go_wp2_with fail
    first | refine bodyPost_end (v := .tuple #[]) (by simp [results, Tryz.results82]) rfl ?_ | refine bodyPost_ret (v := .tuple #[]) (by simp [results, Tryz.results82]) rfl ?_
    refine ⟨rfl, ?_⟩
    unfold csiS
    rw [if_neg (by decide), if_neg (by decide), if_neg (by decide), if_neg (by decide), if_neg (by decide), if_pos (by decide)]
    have e1 : eraS s 0 0 0 = eraS s 0 0 0 := rfl
    rw [HD.out, HNN.out]
    unfold eraS
    rw [if_neg (by decide), if_neg (by decide), if_pos rfl]
    exact HR.out
  have r0 : (D == 0) = false := beq_eq_false_iff_ne.2 hd0
  have r1 : (D == 1) = false := beq_eq_false_iff_ne.2 hd1
  have r2 : (D == 2) = false := beq_eq_false_iff_ne.2 hd2
  go_wp2_with fail
  first | refine bodyPost_end (v := .tuple #[]) (by simp [results, Tryz.results82]) rfl ?_ | refine bodyPost_ret (v := .tuple #[]) (by simp [results, Tryz.results82]) rfl ?_
  refine ⟨rfl, ?_⟩
  unfold csiS
  rw [if_neg (by decide), if_neg (by decide), if_neg (by decide), if_neg (by decide), if_neg (by decide), if_pos (by decide)]
  rw [HD.out]
  unfold eraS
  rw [if_neg hd0, if_neg hd1, if_neg hd2]
  exact .mk Hv2.out HUv2.out
theorem csi75_c (lo b : Nat) (s : Scr) (g cc : Nat) (ah : Option Addr) (dh : Nat) (w : World) (kd : Int) (xs : List Int) (aa : Option Addr) (ca : Nat) (tx : ByteArray) (h : ScrAt lo b 0 s g cc ah dh w) (ok : ScrOK s) (hlo : lo ≤ w.heap.size) (ha : Sl intE 1 w aa xs) (hna : ∀ k ∈ blkOf aa, k ≠ b ∧ k ≠ g ∧ k ∉ blkOf ah) (hx8 : xs.length ≤ 8) (hxr : ∀ x ∈ xs, -1 ≤ x ∧ x ≤ 9999) :
    Calls Tryz.prog 82 #[.pointer (some ⟨b, 0, none⟩), .agg #[.int .i64 kd, .int .i64 75, .bool false, .slice aa xs.length ca, .string tx]] w fun e w' => e = .returned (.tuple #[]) ∧ ScrR lo b 0 (csiS s 75 xs) g ah w w' := by
  have HS := Lib.hid h
  have HOK := Lib.hid ok
  have HA := Lib.hid ha
  have HNA := Lib.hid hna
  have HXR := Lib.hid hxr
  have HX8 := Lib.hid hx8
  have hw1 := ok.w1
  have hw2 := ok.w2
  have hh1 := ok.h1
  have hh2 := ok.h2
  have hx := ok.hx
  have hy := ok.hy
  have hcur := ok.cur
  have hcn := ok.cn
  have hlt := h.lt
  obtain ⟨n, hn⟩ : ∃ n, arg1 xs 0 = n := ⟨_, rfl⟩
  obtain ⟨A0, hA0⟩ : ∃ a, argA xs 0 1 = a := ⟨_, rfl⟩
  have hAb : -1 ≤ A0 ∧ A0 ≤ 9999 := by rw [← hA0]; exact argA_bd HXR.out (by omega) (by omega)
  have hm : max 1 A0 = (n : Int) := by rw [← hn, ← hA0]; unfold arg1; omega
  have hn1 : 1 ≤ n := by omega
  have hn2 : n ≤ 9999 := by omega
  have HN := Lib.hid hn
  have HA0 := Lib.hid hA0
  obtain ⟨p, hp⟩ : ∃ p, s.y * s.w = p := ⟨_, rfl⟩
  obtain ⟨mx, hmx⟩ : ∃ m, min s.x (s.w - 1) = m := ⟨_, rfl⟩
  obtain ⟨cr, hcr⟩ : ∃ c, curS s = c := ⟨_, rfl⟩
  obtain ⟨pn, hpn⟩ : ∃ q, (s.y + 1) * s.w = q := ⟨_, rfl⟩
  obtain ⟨nn, hnn⟩ : ∃ q, s.w * s.h = q := ⟨_, rfl⟩
  have hpi : (s.y : Int) * (s.w : Int) = (p : Int) := by rw [← hp]; exact (Int.natCast_mul _ _).symm
  have hpni : ((s.y : Int) + 1) * (s.w : Int) = (pn : Int) := by rw [← hpn]; exact (Int.natCast_mul (s.y + 1) s.w).symm
  have hnni : (s.w : Int) * (s.h : Int) = (nn : Int) := by rw [← hnn]; exact (Int.natCast_mul _ _).symm
  have hmi : min (s.x : Int) ((s.w : Int) - 1) = (mx : Int) := by omega
  have hcri : (p : Int) + (mx : Int) = (cr : Int) := by rw [← hcr, ← hp, ← hmx]; unfold curS; omega
  have hn240 : nn ≤ 240 := by rw [← hnn]; exact Nat.mul_le_mul hw2 hh2
  rw [hcr, hp, hpn, hnn] at hcur
  rw [hnn] at hcn
  obtain ⟨hc1, hc2, hc3⟩ := hcur
  have HCN := Lib.hid hcn
  have HP := Lib.hid hp
  have HMX := Lib.hid hmx
  have HCR := Lib.hid hcr
  have HPN := Lib.hid hpn
  have HNN := Lib.hid hnn
  have hwA : IntKind.i64.wrap ((s.w : Int) - 1) = (s.w : Int) - 1 := IntWalk.i64_in _ ⟨by omega, by omega⟩
  have hwB : IntKind.i64.wrap (p : Int) = (p : Int) := IntWalk.i64_in _ ⟨by omega, by omega⟩
  have hwC : IntKind.i64.wrap (cr : Int) = (cr : Int) := IntWalk.i64_in _ ⟨by omega, by omega⟩
  have hwD : IntKind.i64.wrap (pn : Int) = (pn : Int) := IntWalk.i64_in _ ⟨by omega, by omega⟩
  have hwE : IntKind.i64.wrap (nn : Int) = (nn : Int) := IntWalk.i64_in _ ⟨by omega, by omega⟩
  have hwF : IntKind.i64.wrap ((s.y : Int) + 1) = (s.y : Int) + 1 := IntWalk.i64_in _ ⟨by omega, by omega⟩
  have hwG : IntKind.i64.wrap ((cr : Int) + 1) = (cr : Int) + 1 := IntWalk.i64_in _ ⟨by omega, by omega⟩
  obtain ⟨ln, hln⟩ : ∃ l, xs.length = l := ⟨_, rfl⟩
  have HLN := Lib.hid hln
  have HCALL : ∀ (i : Nat) (d : Int) (W : World), i ≤ 7 → Sl intE 1 W aa xs → Calls Tryz.prog 117 #[.agg #[.int .i64 kd, .int .i64 75, .bool false, .slice aa ln ca, .string tx], .int .i64 i, .int .i64 d] W fun e w' => e = .returned (.int .i64 (argA xs i d)) ∧ Below W.heap.size W w' := fun i d W hi hW => by
    rw [← hln]
    exact l03ArgG_c kd 75 false tx xs aa ca i d W hW hi hx8
  rw [hln]
  clear h ok ha hna hxr hx8 hn hA0 hp hmx hcr hpn hnn hcn hln
  go_enter Tryz.func82, Tryz.ntmps82
  go_wp2_with fail
  refine (HCALL 0 1 _ (by omega) (HA.out.alloc _)).mono ?_
  rintro e v0 ⟨rfl, hb0⟩
  rw [HA0.out]
  have HB0 : Hid (Below w.heap.size w v0) := Lib.hid (((Below.refl w.heap.size w).alloc (Nat.le_refl _) _).trans (hb0.mono (by simp)))
  have hz0 := HB0.out.size
  have q_l : w.heap.size < v0.heap.size := by have := hb0.size; simp at this; omega
  have q_0 : v0.cell? ⟨w.heap.size, 0, none⟩ = some (.int .i64 kd) := kC hb0 (by simp) (by simp [go_sem])
  have q_1 : v0.cell? ⟨w.heap.size, 1, none⟩ = some (.int .i64 75) := kC hb0 (by simp) (by simp [go_sem])
  have q_2 : v0.cell? ⟨w.heap.size, 2, none⟩ = some (.bool false) := kC hb0 (by simp) (by simp [go_sem])
  have q_3 : v0.cell? ⟨w.heap.size, 3, none⟩ = some (.slice aa ln ca) := kC hb0 (by simp) (by simp [go_sem])
  have q_4 : v0.cell? ⟨w.heap.size, 4, none⟩ = some (.string tx) := kC hb0 (by simp) (by simp [go_sem])
  clear hb0
  have q_b : ¬ w.heap.size = b := by omega
  have HA_nb : ∀ k ∈ blkOf aa, ¬ k = b := fun k hk => (HNA.out k hk).1
  have Hv0 := Lib.hid (HS.out.below HB0.out)
  have HA2 := Lib.hid (HA.out.keep HB0.out)
  have HUv0 : Hid (Upd b 0 (0 + 12) (fun k => k = g ∨ k ∈ blkOf ah) w v0) := Lib.hid (Upd.refl'.below HB0.out HS.out.lt)
  have HA2_nb := HA_nb
  have k_0 := Hv0.out.e0
  have k_1 := Hv0.out.e1
  have k_2 := Hv0.out.e2
  have k_3 := Hv0.out.e3
  have k_4 := Hv0.out.e4
  have k_5 := Hv0.out.e5
  have k_6 := Hv0.out.e6
  have k_7 := Hv0.out.e7
  have k_8 := Hv0.out.e8
  have k_9 := Hv0.out.e9
  have k_10 := Hv0.out.e10
  have k_11 := Hv0.out.e11
  have k_f := Hv0.out.fz
  have k_l := Hv0.out.lt
  go_upto_region 4 with fail
  have hSc1 := And.intro k_0 (And.intro k_2 k_3)
  refine wp_region_O (fun w' => w'.cell? ⟨b, 0, none⟩ = some (.int .i64 (s.w : Int)) ∧ w'.cell? ⟨b, 2, none⟩ = some (.int .i64 (s.x : Int)) ∧ w'.cell? ⟨b, 3, none⟩ = some (.int .i64 (s.y : Int))) [] [0,1,2,3,4,5,6,7,8,9,10,11,12,13,14,15,16,17,18,19,20] ?_
  iterate 21 (first | refine oW (h := ?_) | refine oL (hS := hSc1) (h := ?_))
  refine oD ?_
  obtain ⟨v1, hv1⟩ : ∃ x, v0.drew = x := ⟨_, rfl⟩
  have HBv1 : Hid (Below v0.heap.size v0 v1) := Lib.hid (by rw [← hv1]; exact (Below.refl _ _).drew)
  rw [hv1]
  have hzv1 := HBv1.out.size
  have Hv1 := Lib.hid (Hv0.out.below HBv1.out)
  have HUv1 : Hid (Upd b 0 (0 + 12) (fun k => k = g ∨ k ∈ blkOf ah) w v1) := Lib.hid (HUv0.out.below HBv1.out Hv0.out.lt)
  have qn_0 := kC HBv1.out q_l q_0
  have qn_1 := kC HBv1.out q_l q_1
  have qn_2 := kC HBv1.out q_l q_2
  have qn_3 := kC HBv1.out q_l q_3
  have qn_4 := kC HBv1.out q_l q_4
  have qn_l := Nat.lt_of_lt_of_le q_l HBv1.out.size
  clear q_0 q_1 q_2 q_3 q_4 q_l
  have HA2n := Lib.hid (HA2.out.keep HBv1.out)
  clear k_f k_l k_0 k_1 k_2 k_3 k_4 k_5 k_6 k_7 k_8 k_9 k_10 k_11 hv1 hSc1
  have k_0 := Hv1.out.e0
  have k_1 := Hv1.out.e1
  have k_2 := Hv1.out.e2
  have k_3 := Hv1.out.e3
  have k_4 := Hv1.out.e4
  have k_5 := Hv1.out.e5
  have k_6 := Hv1.out.e6
  have k_7 := Hv1.out.e7
  have k_8 := Hv1.out.e8
  have k_9 := Hv1.out.e9
  have k_10 := Hv1.out.e10
  have k_11 := Hv1.out.e11
  have k_f := Hv1.out.fz
  have k_l := Hv1.out.lt
  obtain ⟨D, hD⟩ : ∃ a, argA xs 0 0 = a := ⟨_, rfl⟩
  have HD := Lib.hid hD
  clear hD
  go_wp2_with fail
  refine (HCALL 0 0 _ (by omega) HA2n.out).mono ?_
  rw [HD.out]
  rintro e v2 ⟨rfl, hbv2⟩
  have HBv2 := Lib.hid hbv2
  have hzv2 := HBv2.out.size
  have Hv2 := Lib.hid (Hv1.out.below HBv2.out)
  have HUv2 : Hid (Upd b 0 (0 + 12) (fun k => k = g ∨ k ∈ blkOf ah) w v2) := Lib.hid (HUv1.out.below HBv2.out Hv1.out.lt)
  have qnn_0 := kC HBv2.out qn_l qn_0
  have qnn_1 := kC HBv2.out qn_l qn_1
  have qnn_2 := kC HBv2.out qn_l qn_2
  have qnn_3 := kC HBv2.out qn_l qn_3
  have qnn_4 := kC HBv2.out qn_l qn_4
  have qnn_l := Nat.lt_of_lt_of_le qn_l HBv2.out.size
  clear qn_0 qn_1 qn_2 qn_3 qn_4 qn_l
  have HA2nn := Lib.hid (HA2n.out.keep HBv2.out)
  clear k_f k_l k_0 k_1 k_2 k_3 k_4 k_5 k_6 k_7 k_8 k_9 k_10 k_11 hbv2
  have k_0 := Hv2.out.e0
  have k_1 := Hv2.out.e1
  have k_2 := Hv2.out.e2
  have k_3 := Hv2.out.e3
  have k_4 := Hv2.out.e4
  have k_5 := Hv2.out.e5
  have k_6 := Hv2.out.e6
  have k_7 := Hv2.out.e7
  have k_8 := Hv2.out.e8
  have k_9 := Hv2.out.e9
  have k_10 := Hv2.out.e10
  have k_11 := Hv2.out.e11
  have k_f := Hv2.out.fz
  have k_l := Hv2.out.lt
  by_cases hd0 : D = 0
  · subst hd0
    go_upto_region 29 with fail
    have hSc2 := And.intro k_0 k_3
    refine wp_region_O (fun w' => w'.cell? ⟨b, 0, none⟩ = some (.int .i64 (s.w : Int)) ∧ w'.cell? ⟨b, 3, none⟩ = some (.int .i64 (s.y : Int))) [] [0,1,2,3,4,5,6,7,8,9,10,11,12] ?_
    iterate 12 (first | refine oW (h := ?_) | refine oL (hS := hSc2) (h := ?_))
    refine oO (hS := .inr hSc2) (h := ?_)
    intro K' hK
    go_simp
    refine (clear_c lo b s g cc ah dh _ cr pn Hv2.out.drew (by omega) (by rw [HCN.out]; omega) (by rw [HCN.out]; exact hn240)).mono ?_
    rintro e x1 ⟨rfl, hax, hcx⟩
    have HR : Hid (ScrR lo b 0 (clr cr pn s) g ah w x1) := Lib.hid (.mk hax (HUv2.out.drew.transN (Upd.ofCh (S := fun i => i = g) hcx Hv2.out.lt (fun e => HS.out.gb e.symm) (fun i hi => .inl hi)) (fun i hi => .inl (.inl hi))))
    have hSx : x1.cell? ⟨b, 0, none⟩ = some (.int .i64 (s.w : Int)) ∧ x1.cell? ⟨b, 3, none⟩ = some (.int .i64 (s.y : Int)) := ⟨hax.c0, hax.c3⟩
    clear hax hcx
    refine oN hK (hS := .inr hSx) (h := ?_)
    clear hK K'
    refine oD ?_
    go_wp2_with fail
    first | refine bodyPost_end (v := .tuple #[]) (by simp [results, Tryz.results82]) rfl ?_ | refine bodyPost_ret (v := .tuple #[]) (by simp [results, Tryz.results82]) rfl ?_
    refine ⟨rfl, ?_⟩
    unfold csiS
    rw [if_neg (by decide), if_neg (by decide), if_neg (by decide), if_neg (by decide), if_neg (by decide), if_neg (by decide), if_pos (by decide)]
    have e1 : eraS s 0 0 0 = eraS s 0 0 0 := rfl
    rw [HD.out, HP.out, HPN.out]
    unfold eraS
    rw [if_pos rfl]
    rw [HCR.out]
    exact HR.out
  by_cases hd1 : D = 1
  · subst hd1
    go_upto_region 31 with fail
    have hSc2 := And.intro k_0 k_3
    refine wp_region_O (fun w' => w'.cell? ⟨b, 0, none⟩ = some (.int .i64 (s.w : Int)) ∧ w'.cell? ⟨b, 3, none⟩ = some (.int .i64 (s.y : Int))) [] [0,1,2,3,4,5,6,7,8,9,10,11,12] ?_
    iterate 12 (first | refine oW (h := ?_) | refine oL (hS := hSc2) (h := ?_))
    refine oO (hS := .inr hSc2) (h := ?_)
    intro K' hK
    go_simp
    refine (clear_c lo b s g cc ah dh _ p (cr + 1) Hv2.out.drew (by omega) (by rw [HCN.out]; omega) (by rw [HCN.out]; exact hn240)).mono ?_
    rintro e x1 ⟨rfl, hax, hcx⟩
    have HR : Hid (ScrR lo b 0 (clr p (cr + 1) s) g ah w x1) := Lib.hid (.mk hax (HUv2.out.drew.transN (Upd.ofCh (S := fun i => i = g) hcx Hv2.out.lt (fun e => HS.out.gb e.symm) (fun i hi => .inl hi)) (fun i hi => .inl (.inl hi))))
    have hSx : x1.cell? ⟨b, 0, none⟩ = some (.int .i64 (s.w : Int)) ∧ x1.cell? ⟨b, 3, none⟩ = some (.int .i64 (s.y : Int)) := ⟨hax.c0, hax.c3⟩
    clear hax hcx
    refine oN hK (hS := .inr hSx) (h := ?_)
    clear hK K'
    refine oD ?_
    go_wp2_with fail
    first | refine bodyPost_end (v := .tuple #[]) (by simp [results, Tryz.results82]) rfl ?_ | refine bodyPost_ret (v := .tuple #[]) (by simp [results, Tryz.results82]) rfl ?_
    refine ⟨rfl, ?_⟩
    unfold csiS
    rw [if_neg (by decide), if_neg (by decide), if_neg (by decide), if_neg (by decide), if_neg (by decide), if_neg (by decide), if_pos (by decide)]
    have e1 : eraS s 0 0 0 = eraS s 0 0 0 := rfl
    rw [HD.out, HP.out, HPN.out]
    unfold eraS
    rw [if_neg (by decide), if_pos rfl]
    rw [HCR.out]
    exact HR.out
  by_cases hd2 : D = 2
  · subst hd2
    go_upto_region 33 with fail
    have hSc2 := And.intro k_0 k_3
    refine wp_region_O (fun w' => w'.cell? ⟨b, 0, none⟩ = some (.int .i64 (s.w : Int)) ∧ w'.cell? ⟨b, 3, none⟩ = some (.int .i64 (s.y : Int))) [] [0,1,2,3,4,5,6,7,8,9,10,11,12,13,14,15,16,17,18,19,20] ?_
    iterate 20 (first | refine oW (h := ?_) | refine oL (hS := hSc2) (h := ?_))
    refine oO (hS := .inr hSc2) (h := ?_)
    intro K' hK
    go_simp
    refine (clear_c lo b s g cc ah dh _ p pn Hv2.out.drew (by omega) (by rw [HCN.out]; omega) (by rw [HCN.out]; exact hn240)).mono ?_
    rintro e x1 ⟨rfl, hax, hcx⟩
    have HR : Hid (ScrR lo b 0 (clr p pn s) g ah w x1) := Lib.hid (.mk hax (HUv2.out.drew.transN (Upd.ofCh (S := fun i => i = g) hcx Hv2.out.lt (fun e => HS.out.gb e.symm) (fun i hi => .inl hi)) (fun i hi => .inl (.inl hi))))
    have hSx : x1.cell? ⟨b, 0, none⟩ = some (.int .i64 (s.w : Int)) ∧ x1.cell? ⟨b, 3, none⟩ = some (.int .i64 (s.y : Int)) := ⟨hax.c0, hax.c3⟩
    clear hax hcx
    refine oN hK (hS := .inr hSx) (h := ?_)
    clear hK K'
    refine oD ?_
    go_wp2_with fail
    first | refine bodyPost_end (v := .tuple #[]) (by simp [results, Tryz.results82]) rfl ?_ | refine bodyPost_ret (v := .tuple #[]) (by simp [results, Tryz.results82]) rfl ?_
    refine ⟨rfl, ?_⟩
    unfold csiS
    rw [if_neg (by decide), if_neg (by decide), if_neg (by decide), if_neg (by decide), if_neg (by decide), if_neg (by decide), if_pos (by decide)]
    have e1 : eraS s 0 0 0 = eraS s 0 0 0 := rfl
    rw [HD.out, HP.out, HPN.out]
    unfold eraS
    rw [if_neg (by decide), if_neg (by decide), if_pos rfl]
    exact HR.out
  have r0 : (D == 0) = false := beq_eq_false_iff_ne.2 hd0
  have r1 : (D == 1) = false := beq_eq_false_iff_ne.2 hd1
  have r2 : (D == 2) = false := beq_eq_false_iff_ne.2 hd2
  go_wp2_with fail
  first | refine bodyPost_end (v := .tuple #[]) (by simp [results, Tryz.results82]) rfl ?_ | refine bodyPost_ret (v := .tuple #[]) (by simp [results, Tryz.results82]) rfl ?_
  refine ⟨rfl, ?_⟩
  unfold csiS
  rw [if_neg (by decide), if_neg (by decide), if_neg (by decide), if_neg (by decide), if_neg (by decide), if_neg (by decide), if_pos (by decide)]
  rw [HD.out]
  unfold eraS
  rw [if_neg hd0, if_neg hd1, if_neg hd2]
  exact .mk Hv2.out HUv2.out
end
section
open Go.RowKit
theorem csi76_c (lo b : Nat) (s : Scr) (g cc : Nat) (ah : Option Addr) (dh : Nat) (w : World) (kd : Int) (xs : List Int) (aa : Option Addr) (ca : Nat) (tx : ByteArray) (h : ScrAt lo b 0 s g cc ah dh w) (ok : ScrOK s) (hlo : lo ≤ w.heap.size) (ha : Sl intE 1 w aa xs) (hna : ∀ k ∈ blkOf aa, k ≠ b ∧ k ≠ g ∧ k ∉ blkOf ah) (hx8 : xs.length ≤ 8) (hxr : ∀ x ∈ xs, -1 ≤ x ∧ x ≤ 9999) :
    Calls Tryz.prog 82 #[.pointer (some ⟨b, 0, none⟩), .agg #[.int .i64 kd, .int .i64 76, .bool false, .slice aa xs.length ca, .string tx]] w fun e w' => e = .returned (.tuple #[]) ∧ ScrR lo b 0 (csiS s 76 xs) g ah w w' := by
  have HS := Lib.hid h
  have HOK := Lib.hid ok
  have HA := Lib.hid ha
  have HNA := Lib.hid hna
  have HXR := Lib.hid hxr
  have HX8 := Lib.hid hx8
  have hw1 := ok.w1
  have hw2 := ok.w2
  have hh1 := ok.h1
  have hh2 := ok.h2
  have hx := ok.hx
  have hy := ok.hy
  have hcur := ok.cur
  have hcn := ok.cn
  have hlt := h.lt
  obtain ⟨n, hn⟩ : ∃ n, arg1 xs 0 = n := ⟨_, rfl⟩
  obtain ⟨A0, hA0⟩ : ∃ a, argA xs 0 1 = a := ⟨_, rfl⟩
  have hAb : -1 ≤ A0 ∧ A0 ≤ 9999 := by rw [← hA0]; exact argA_bd HXR.out (by omega) (by omega)
  have hm : max 1 A0 = (n : Int) := by rw [← hn, ← hA0]; unfold arg1; omega
  have hn1 : 1 ≤ n := by omega
  have hn2 : n ≤ 9999 := by omega
  have HN := Lib.hid hn
  have HA0 := Lib.hid hA0
  obtain ⟨p, hp⟩ : ∃ p, s.y * s.w = p := ⟨_, rfl⟩
  obtain ⟨mx, hmx⟩ : ∃ m, min s.x (s.w - 1) = m := ⟨_, rfl⟩
  obtain ⟨cr, hcr⟩ : ∃ c, curS s = c := ⟨_, rfl⟩
  obtain ⟨pn, hpn⟩ : ∃ q, (s.y + 1) * s.w = q := ⟨_, rfl⟩
  obtain ⟨nn, hnn⟩ : ∃ q, s.w * s.h = q := ⟨_, rfl⟩
  have hpi : (s.y : Int) * (s.w : Int) = (p : Int) := by rw [← hp]; exact (Int.natCast_mul _ _).symm
  have hpni : ((s.y : Int) + 1) * (s.w : Int) = (pn : Int) := by rw [← hpn]; exact (Int.natCast_mul (s.y + 1) s.w).symm
  have hnni : (s.w : Int) * (s.h : Int) = (nn : Int) := by rw [← hnn]; exact (Int.natCast_mul _ _).symm
  have hmi : min (s.x : Int) ((s.w : Int) - 1) = (mx : Int) := by omega
  have hcri : (p : Int) + (mx : Int) = (cr : Int) := by rw [← hcr, ← hp, ← hmx]; unfold curS; omega
  have hn240 : nn ≤ 240 := by rw [← hnn]; exact Nat.mul_le_mul hw2 hh2
  rw [hcr, hp, hpn, hnn] at hcur
  rw [hnn] at hcn
  obtain ⟨hc1, hc2, hc3⟩ := hcur
  have HCN := Lib.hid hcn
  have HP := Lib.hid hp
  have HMX := Lib.hid hmx
  have HCR := Lib.hid hcr
  have HPN := Lib.hid hpn
  have HNN := Lib.hid hnn
  have hwA : IntKind.i64.wrap ((s.w : Int) - 1) = (s.w : Int) - 1 := IntWalk.i64_in _ ⟨by omega, by omega⟩
  have hwB : IntKind.i64.wrap (p : Int) = (p : Int) := IntWalk.i64_in _ ⟨by omega, by omega⟩
  have hwC : IntKind.i64.wrap (cr : Int) = (cr : Int) := IntWalk.i64_in _ ⟨by omega, by omega⟩
  have hwD : IntKind.i64.wrap (pn : Int) = (pn : Int) := IntWalk.i64_in _ ⟨by omega, by omega⟩
  have hwE : IntKind.i64.wrap (nn : Int) = (nn : Int) := IntWalk.i64_in _ ⟨by omega, by omega⟩
  have hwF : IntKind.i64.wrap ((s.y : Int) + 1) = (s.y : Int) + 1 := IntWalk.i64_in _ ⟨by omega, by omega⟩
  have hwG : IntKind.i64.wrap ((cr : Int) + 1) = (cr : Int) + 1 := IntWalk.i64_in _ ⟨by omega, by omega⟩
  obtain ⟨ln, hln⟩ : ∃ l, xs.length = l := ⟨_, rfl⟩
  have HLN := Lib.hid hln
  have HCALL : ∀ (i : Nat) (d : Int) (W : World), i ≤ 7 → Sl intE 1 W aa xs → Calls Tryz.prog 117 #[.agg #[.int .i64 kd, .int .i64 76, .bool false, .slice aa ln ca, .string tx], .int .i64 i, .int .i64 d] W fun e w' => e = .returned (.int .i64 (argA xs i d)) ∧ Below W.heap.size W w' := fun i d W hi hW => by
    rw [← hln]
    exact l03ArgG_c kd 76 false tx xs aa ca i d W hW hi hx8
  rw [hln]
  clear h ok ha hna hxr hx8 hn hA0 hp hmx hcr hpn hnn hcn hln
  go_enter Tryz.func82, Tryz.ntmps82
  go_wp2_with fail
  refine (HCALL 0 1 _ (by omega) (HA.out.alloc _)).mono ?_
  rintro e v0 ⟨rfl, hb0⟩
  rw [HA0.out]
  have HB0 : Hid (Below w.heap.size w v0) := Lib.hid (((Below.refl w.heap.size w).alloc (Nat.le_refl _) _).trans (hb0.mono (by simp)))
  have hz0 := HB0.out.size
  have q_l : w.heap.size < v0.heap.size := by have := hb0.size; simp at this; omega
  have q_0 : v0.cell? ⟨w.heap.size, 0, none⟩ = some (.int .i64 kd) := kC hb0 (by simp) (by simp [go_sem])
  have q_1 : v0.cell? ⟨w.heap.size, 1, none⟩ = some (.int .i64 76) := kC hb0 (by simp) (by simp [go_sem])
  have q_2 : v0.cell? ⟨w.heap.size, 2, none⟩ = some (.bool false) := kC hb0 (by simp) (by simp [go_sem])
  have q_3 : v0.cell? ⟨w.heap.size, 3, none⟩ = some (.slice aa ln ca) := kC hb0 (by simp) (by simp [go_sem])
  have q_4 : v0.cell? ⟨w.heap.size, 4, none⟩ = some (.string tx) := kC hb0 (by simp) (by simp [go_sem])
  clear hb0
  have q_b : ¬ w.heap.size = b := by omega
  have HA_nb : ∀ k ∈ blkOf aa, ¬ k = b := fun k hk => (HNA.out k hk).1
  have Hv0 := Lib.hid (HS.out.below HB0.out)
  have HA2 := Lib.hid (HA.out.keep HB0.out)
  have HUv0 : Hid (Upd b 0 (0 + 12) (fun k => k = g ∨ k ∈ blkOf ah) w v0) := Lib.hid (Upd.refl'.below HB0.out HS.out.lt)
  have HA2_nb := HA_nb
  have k_0 := Hv0.out.e0
  have k_1 := Hv0.out.e1
  have k_2 := Hv0.out.e2
  have k_3 := Hv0.out.e3
  have k_4 := Hv0.out.e4
  have k_5 := Hv0.out.e5
  have k_6 := Hv0.out.e6
  have k_7 := Hv0.out.e7
  have k_8 := Hv0.out.e8
  have k_9 := Hv0.out.e9
  have k_10 := Hv0.out.e10
  have k_11 := Hv0.out.e11
  have k_f := Hv0.out.fz
  have k_l := Hv0.out.lt
  go_upto_region 4 with fail
  have hSc1 := And.intro k_0 (And.intro k_2 k_3)
  refine wp_region_O (fun w' => w'.cell? ⟨b, 0, none⟩ = some (.int .i64 (s.w : Int)) ∧ w'.cell? ⟨b, 2, none⟩ = some (.int .i64 (s.x : Int)) ∧ w'.cell? ⟨b, 3, none⟩ = some (.int .i64 (s.y : Int))) [] [0,1,2,3,4,5,6,7,8,9,10,11,12,13,14,15,16,17,18,19,20] ?_
  iterate 21 (first | refine oW (h := ?_) | refine oL (hS := hSc1) (h := ?_))
  refine oD ?_
  obtain ⟨v1, hv1⟩ : ∃ x, v0.drew = x := ⟨_, rfl⟩
  have HBv1 : Hid (Below v0.heap.size v0 v1) := Lib.hid (by rw [← hv1]; exact (Below.refl _ _).drew)
  rw [hv1]
  have hzv1 := HBv1.out.size
  have Hv1 := Lib.hid (Hv0.out.below HBv1.out)
  have HUv1 : Hid (Upd b 0 (0 + 12) (fun k => k = g ∨ k ∈ blkOf ah) w v1) := Lib.hid (HUv0.out.below HBv1.out Hv0.out.lt)
  have qn_0 := kC HBv1.out q_l q_0
  have qn_1 := kC HBv1.out q_l q_1
  have qn_2 := kC HBv1.out q_l q_2
  have qn_3 := kC HBv1.out q_l q_3
  have qn_4 := kC HBv1.out q_l q_4
  have qn_l := Nat.lt_of_lt_of_le q_l HBv1.out.size
  clear q_0 q_1 q_2 q_3 q_4 q_l
  have HA2n := Lib.hid (HA2.out.keep HBv1.out)
  clear k_f k_l k_0 k_1 k_2 k_3 k_4 k_5 k_6 k_7 k_8 k_9 k_10 k_11 hv1 hSc1
  have k_0 := Hv1.out.e0
  have k_1 := Hv1.out.e1
  have k_2 := Hv1.out.e2
  have k_3 := Hv1.out.e3
  have k_4 := Hv1.out.e4
  have k_5 := Hv1.out.e5
  have k_6 := Hv1.out.e6
  have k_7 := Hv1.out.e7
  have k_8 := Hv1.out.e8
  have k_9 := Hv1.out.e9
  have k_10 := Hv1.out.e10
  have k_11 := Hv1.out.e11
  have k_f := Hv1.out.fz
  have k_l := Hv1.out.lt
  by_cases hin : s.top ≤ s.y ∧ s.y ≤ s.bot
  · have HI : Hid (inB (s.y : Int) (s.top : Int) (s.bot : Int) = true) := Lib.hid (by simp only [inB, Bool.and_eq_true, decide_eq_true_eq]; omega)
    have htb := HOK.out.tb
    have hbh := HOK.out.bh
    obtain ⟨m, hmm⟩ : ∃ m, min n (s.bot - s.y + 1) = m := ⟨_, rfl⟩
    have hmi2 : min (n : Int) ((s.bot : Int) - (s.y : Int) + 1) = (m : Int) := by omega
    have hm10 : m ≤ 10 := by omega
    have HM := Lib.hid hmm
    have hwI : IntKind.i64.wrap ((s.bot : Int) - (s.y : Int)) = (s.bot : Int) - (s.y : Int) := IntWalk.i64_in _ ⟨by omega, by omega⟩
    have hwJ : IntKind.i64.wrap ((s.bot : Int) - (s.y : Int) + 1) = (s.bot : Int) - (s.y : Int) + 1 := IntWalk.i64_in _ ⟨by omega, by omega⟩
    have hwK : IntKind.i64.wrap (-(m : Int)) = -(m : Int) := IntWalk.i64_in _ ⟨by omega, by omega⟩
    have HIN := Lib.hid hin
    clear hin hmm
    go_upto_region 36 with fail
    have hSc2 := And.intro k_3 (And.intro k_5 k_6)
    refine wp_region_O (fun w' => w'.cell? ⟨b, 3, none⟩ = some (.int .i64 (s.y : Int)) ∧ w'.cell? ⟨b, 5, none⟩ = some (.int .i64 (s.top : Int)) ∧ w'.cell? ⟨b, 6, none⟩ = some (.int .i64 (s.bot : Int))) [] [0,1,2,3,4,5,6,7,8,9,10,11,12] ?_
    iterate 12 (first | refine oW (h := ?_) | refine oL (hS := hSc2) (h := ?_))
    refine oO (hS := .inr hSc2) (h := ?_)
    intro K' hK
    go_simp
    refine (l01In_c _ _ _ _).mono ?_
    rw [HI.out]
    rintro e x1 ⟨rfl, rfl⟩
    refine oN hK (hS := .inr hSc2) (h := ?_)
    clear hK K'
    refine oD ?_
    obtain ⟨v2, hv2⟩ : ∃ x, v1.drew = x := ⟨_, rfl⟩
    have HBv2 : Hid (Below v1.heap.size v1 v2) := Lib.hid (by rw [← hv2]; exact (Below.refl _ _).drew)
    rw [hv2]
    have hzv2 := HBv2.out.size
    have Hv2 := Lib.hid (Hv1.out.below HBv2.out)
    have HUv2 : Hid (Upd b 0 (0 + 12) (fun k => k = g ∨ k ∈ blkOf ah) w v2) := Lib.hid (HUv1.out.below HBv2.out Hv1.out.lt)
    have qnn_0 := kC HBv2.out qn_l qn_0
    have qnn_1 := kC HBv2.out qn_l qn_1
    have qnn_2 := kC HBv2.out qn_l qn_2
    have qnn_3 := kC HBv2.out qn_l qn_3
    have qnn_4 := kC HBv2.out qn_l qn_4
    have qnn_l := Nat.lt_of_lt_of_le qn_l HBv2.out.size
    clear qn_0 qn_1 qn_2 qn_3 qn_4 qn_l
    have HA2nn := Lib.hid (HA2n.out.keep HBv2.out)
    clear k_f k_l k_0 k_1 k_2 k_3 k_4 k_5 k_6 k_7 k_8 k_9 k_10 k_11 hv2 hSc2
    have k_0 := Hv2.out.e0
    have k_1 := Hv2.out.e1
    have k_2 := Hv2.out.e2
    have k_3 := Hv2.out.e3
    have k_4 := Hv2.out.e4
    have k_5 := Hv2.out.e5
    have k_6 := Hv2.out.e6
    have k_7 := Hv2.out.e7
    have k_8 := Hv2.out.e8
    have k_9 := Hv2.out.e9
    have k_10 := Hv2.out.e10
    have k_11 := Hv2.out.e11
    have k_f := Hv2.out.fz
    have k_l := Hv2.out.lt
    go_upto_region 37 with fail
    have hSc3 := And.intro k_3 k_6
    refine wp_region_O (fun w' => w'.cell? ⟨b, 3, none⟩ = some (.int .i64 (s.y : Int)) ∧ w'.cell? ⟨b, 6, none⟩ = some (.int .i64 (s.bot : Int))) [] [0,1,2,3,4,5,6,7,8,9,10,11,12] ?_
    iterate 13 (first | refine oW (h := ?_) | refine oL (hS := hSc3) (h := ?_))
    refine oD ?_
    obtain ⟨v3, hv3⟩ : ∃ x, v2.drew = x := ⟨_, rfl⟩
    have HBv3 : Hid (Below v2.heap.size v2 v3) := Lib.hid (by rw [← hv3]; exact (Below.refl _ _).drew)
    rw [hv3]
    have hzv3 := HBv3.out.size
    have Hv3 := Lib.hid (Hv2.out.below HBv3.out)
    have HUv3 : Hid (Upd b 0 (0 + 12) (fun k => k = g ∨ k ∈ blkOf ah) w v3) := Lib.hid (HUv2.out.below HBv3.out Hv2.out.lt)
    have qnnn_0 := kC HBv3.out qnn_l qnn_0
    have qnnn_1 := kC HBv3.out qnn_l qnn_1
    have qnnn_2 := kC HBv3.out qnn_l qnn_2
    have qnnn_3 := kC HBv3.out qnn_l qnn_3
    have qnnn_4 := kC HBv3.out qnn_l qnn_4
    have qnnn_l := Nat.lt_of_lt_of_le qnn_l HBv3.out.size
    clear qnn_0 qnn_1 qnn_2 qnn_3 qnn_4 qnn_l
    have HA2nnn := Lib.hid (HA2nn.out.keep HBv3.out)
    clear k_f k_l k_0 k_1 k_2 k_3 k_4 k_5 k_6 k_7 k_8 k_9 k_10 k_11 hv3 hSc3
    have k_0 := Hv3.out.e0
    have k_1 := Hv3.out.e1
    have k_2 := Hv3.out.e2
    have k_3 := Hv3.out.e3
    have k_4 := Hv3.out.e4
    have k_5 := Hv3.out.e5
    have k_6 := Hv3.out.e6
    have k_7 := Hv3.out.e7
    have k_8 := Hv3.out.e8
    have k_9 := Hv3.out.e9
    have k_10 := Hv3.out.e10
    have k_11 := Hv3.out.e11
    have k_f := Hv3.out.fz
    have k_l := Hv3.out.lt
    go_upto_region 40 with fail
    have hSc4 := And.intro k_3 k_6
    refine wp_region_O (fun w' => w'.cell? ⟨b, 3, none⟩ = some (.int .i64 (s.y : Int)) ∧ w'.cell? ⟨b, 6, none⟩ = some (.int .i64 (s.bot : Int))) [] [0,1,2,3,4,5,6,7,8,9,10] ?_
    iterate 10 (first | refine oW (h := ?_) | refine oL (hS := hSc4) (h := ?_))
    refine oO (hS := .inr hSc4) (h := ?_)
    intro K' hK
    go_simp
    refine (withinD_c lo b s g cc ah dh _ s.y s.bot m Hv3.out.drew HOK.out HIN.out.2 HOK.out.bh hm10 (by show lo ≤ v3.heap.size; omega)).mono ?_
    rintro e x1 ⟨rfl, g1, cc1, ah1, dh1, ha, hu, hg, hh⟩
    have e1 := scD_same s.y s.bot s m
    have HX := Lib.hid ha
    have HR : Hid (Upd b 0 (0 + 12) (fun k => k = g ∨ k ∈ blkOf ah) w x1 ∧ (g1 = g ∨ w.heap.size ≤ g1) ∧ ∀ i ∈ blkOf ah1, i ∈ blkOf ah ∨ w.heap.size ≤ i) := Lib.hid (by
      obtain ⟨g2, c2, a2, d2, _⟩ : ∃ g2 c2 a2 d2, ScrAt lo b 0 (scD s.y s.bot m s) g2 c2 a2 d2 x1 := ⟨_, _, _, _, ha⟩
      refine ⟨HUv3.out.drew.transN hu (fun i hi => .inl hi), hg.imp id (fun h => by have : v3.heap.size ≤ g1 := h; omega), fun i hi => (hh i hi).imp id (fun h => by have : v3.heap.size ≤ i := h; omega)⟩)
    have hSx : x1.cell? ⟨b, 3, none⟩ = some (.int .i64 (s.y : Int)) ∧ x1.cell? ⟨b, 6, none⟩ = some (.int .i64 (s.bot : Int)) := ⟨by have := ha.c3; rw [e1.2.2.2.1] at this; exact this, by have := ha.c6; rw [e1.2.2.2.2.2.2.1] at this; exact this⟩
    have z_2 : x1.cell? ⟨b, 2, none⟩ = some (.int .i64 s.x) := by have := ha.c2; rw [e1.2.2.1] at this; exact this
    have z_f := ha.fz
    have z_l := ha.lt
    clear ha hu hg hh
    refine oN hK (hS := .inr hSx) (h := ?_)
    clear hK K'
    refine oD ?_
    go_wp2_with fail
    first | refine bodyPost_end (v := .tuple #[]) (by simp [results, Tryz.results82]) rfl ?_ | refine bodyPost_ret (v := .tuple #[]) (by simp [results, Tryz.results82]) rfl ?_
    refine ⟨rfl, ?_⟩
    unfold csiS
    rw [if_neg (by decide), if_neg (by decide), if_neg (by decide), if_neg (by decide), if_neg (by decide), if_neg (by decide), if_neg (by decide), if_pos (by decide)]
    rw [if_pos HIN.out, HN.out, HM.out]
    exact ScrR.trans HX.out HR.out.1 HR.out.2.1 HR.out.2.2 (.mk (HX.out.setv2 0 rfl) (Upd.refl'.set2 _))
  · have HI : Hid (inB (s.y : Int) (s.top : Int) (s.bot : Int) = false) := Lib.hid (by simp only [inB, Bool.and_eq_false_iff, decide_eq_false_iff_not]; omega)
    go_upto_region 36 with fail
    have hSc2 := And.intro k_3 (And.intro k_5 k_6)
    refine wp_region_O (fun w' => w'.cell? ⟨b, 3, none⟩ = some (.int .i64 (s.y : Int)) ∧ w'.cell? ⟨b, 5, none⟩ = some (.int .i64 (s.top : Int)) ∧ w'.cell? ⟨b, 6, none⟩ = some (.int .i64 (s.bot : Int))) [] [0,1,2,3,4,5,6,7,8,9,10,11,12] ?_
    iterate 12 (first | refine oW (h := ?_) | refine oL (hS := hSc2) (h := ?_))
    refine oO (hS := .inr hSc2) (h := ?_)
    intro K' hK
    go_simp
    refine (l01In_c _ _ _ _).mono ?_
    rw [HI.out]
    rintro e x1 ⟨rfl, rfl⟩
    refine oN hK (hS := .inr hSc2) (h := ?_)
    clear hK K'
    refine oD ?_
    obtain ⟨v2, hv2⟩ : ∃ x, v1.drew = x := ⟨_, rfl⟩
    have HBv2 : Hid (Below v1.heap.size v1 v2) := Lib.hid (by rw [← hv2]; exact (Below.refl _ _).drew)
    rw [hv2]
    have hzv2 := HBv2.out.size
    have Hv2 := Lib.hid (Hv1.out.below HBv2.out)
    have HUv2 : Hid (Upd b 0 (0 + 12) (fun k => k = g ∨ k ∈ blkOf ah) w v2) := Lib.hid (HUv1.out.below HBv2.out Hv1.out.lt)
    have qnn_0 := kC HBv2.out qn_l qn_0
    have qnn_1 := kC HBv2.out qn_l qn_1
    have qnn_2 := kC HBv2.out qn_l qn_2
    have qnn_3 := kC HBv2.out qn_l qn_3
    have qnn_4 := kC HBv2.out qn_l qn_4
    have qnn_l := Nat.lt_of_lt_of_le qn_l HBv2.out.size
    clear qn_0 qn_1 qn_2 qn_3 qn_4 qn_l
    have HA2nn := Lib.hid (HA2n.out.keep HBv2.out)
    clear k_f k_l k_0 k_1 k_2 k_3 k_4 k_5 k_6 k_7 k_8 k_9 k_10 k_11 hv2 hSc2
    have k_0 := Hv2.out.e0
    have k_1 := Hv2.out.e1
    have k_2 := Hv2.out.e2
    have k_3 := Hv2.out.e3
    have k_4 := Hv2.out.e4
    have k_5 := Hv2.out.e5
    have k_6 := Hv2.out.e6
    have k_7 := Hv2.out.e7
    have k_8 := Hv2.out.e8
    have k_9 := Hv2.out.e9
    have k_10 := Hv2.out.e10
    have k_11 := Hv2.out.e11
    have k_f := Hv2.out.fz
    have k_l := Hv2.out.lt
    go_wp2_with fail
    first | refine bodyPost_end (v := .tuple #[]) (by simp [results, Tryz.results82]) rfl ?_ | refine bodyPost_ret (v := .tuple #[]) (by simp [results, Tryz.results82]) rfl ?_
    refine ⟨rfl, ?_⟩
    unfold csiS
    rw [if_neg (by decide), if_neg (by decide), if_neg (by decide), if_neg (by decide), if_neg (by decide), if_neg (by decide), if_neg (by decide), if_pos (by decide)]
    rw [if_neg hin]
    exact .mk Hv2.out HUv2.out
theorem csi77_c (lo b : Nat) (s : Scr) (g cc : Nat) (ah : Option Addr) (dh : Nat) (w : World) (kd : Int) (xs : List Int) (aa : Option Addr) (ca : Nat) (tx : ByteArray) (h : ScrAt lo b 0 s g cc ah dh w) (ok : ScrOK s) (hlo : lo ≤ w.heap.size) (ha : Sl intE 1 w aa xs) (hna : ∀ k ∈ blkOf aa, k ≠ b ∧ k ≠ g ∧ k ∉ blkOf ah) (hx8 : xs.length ≤ 8) (hxr : ∀ x ∈ xs, -1 ≤ x ∧ x ≤ 9999) :
    Calls Tryz.prog 82 #[.pointer (some ⟨b, 0, none⟩), .agg #[.int .i64 kd, .int .i64 77, .bool false, .slice aa xs.length ca, .string tx]] w fun e w' => e = .returned (.tuple #[]) ∧ ScrR lo b 0 (csiS s 77 xs) g ah w w' := by
  have HS := Lib.hid h
  have HOK := Lib.hid ok
  have HA := Lib.hid ha
  have HNA := Lib.hid hna
  have HXR := Lib.hid hxr
  have HX8 := Lib.hid hx8
  have hw1 := ok.w1
  have hw2 := ok.w2
  have hh1 := ok.h1
  have hh2 := ok.h2
  have hx := ok.hx
  have hy := ok.hy
  have hcur := ok.cur
  have hcn := ok.cn
  have hlt := h.lt
  obtain ⟨n, hn⟩ : ∃ n, arg1 xs 0 = n := ⟨_, rfl⟩
  obtain ⟨A0, hA0⟩ : ∃ a, argA xs 0 1 = a := ⟨_, rfl⟩
  have hAb : -1 ≤ A0 ∧ A0 ≤ 9999 := by rw [← hA0]; exact argA_bd HXR.out (by omega) (by omega)
  have hm : max 1 A0 = (n : Int) := by rw [← hn, ← hA0]; unfold arg1; omega
  have hn1 : 1 ≤ n := by omega
  have hn2 : n ≤ 9999 := by omega
  have HN := Lib.hid hn
  have HA0 := Lib.hid hA0
  obtain ⟨p, hp⟩ : ∃ p, s.y * s.w = p := ⟨_, rfl⟩
  obtain ⟨mx, hmx⟩ : ∃ m, min s.x (s.w - 1) = m := ⟨_, rfl⟩
  obtain ⟨cr, hcr⟩ : ∃ c, curS s = c := ⟨_, rfl⟩
  obtain ⟨pn, hpn⟩ : ∃ q, (s.y + 1) * s.w = q := ⟨_, rfl⟩
  obtain ⟨nn, hnn⟩ : ∃ q, s.w * s.h = q := ⟨_, rfl⟩
  have hpi : (s.y : Int) * (s.w : Int) = (p : Int) := by rw [← hp]; exact (Int.natCast_mul _ _).symm
  have hpni : ((s.y : Int) + 1) * (s.w : Int) = (pn : Int) := by rw [← hpn]; exact (Int.natCast_mul (s.y + 1) s.w).symm
  have hnni : (s.w : Int) * (s.h : Int) = (nn : Int) := by rw [← hnn]; exact (Int.natCast_mul _ _).symm
  have hmi : min (s.x : Int) ((s.w : Int) - 1) = (mx : Int) := by omega
  have hcri : (p : Int) + (mx : Int) = (cr : Int) := by rw [← hcr, ← hp, ← hmx]; unfold curS; omega
  have hn240 : nn ≤ 240 := by rw [← hnn]; exact Nat.mul_le_mul hw2 hh2
  rw [hcr, hp, hpn, hnn] at hcur
  rw [hnn] at hcn
  obtain ⟨hc1, hc2, hc3⟩ := hcur
  have HCN := Lib.hid hcn
  have HP := Lib.hid hp
  have HMX := Lib.hid hmx
  have HCR := Lib.hid hcr
  have HPN := Lib.hid hpn
  have HNN := Lib.hid hnn
  have hwA : IntKind.i64.wrap ((s.w : Int) - 1) = (s.w : Int) - 1 := IntWalk.i64_in _ ⟨by omega, by omega⟩
  have hwB : IntKind.i64.wrap (p : Int) = (p : Int) := IntWalk.i64_in _ ⟨by omega, by omega⟩
  have hwC : IntKind.i64.wrap (cr : Int) = (cr : Int) := IntWalk.i64_in _ ⟨by omega, by omega⟩
  have hwD : IntKind.i64.wrap (pn : Int) = (pn : Int) := IntWalk.i64_in _ ⟨by omega, by omega⟩
  have hwE : IntKind.i64.wrap (nn : Int) = (nn : Int) := IntWalk.i64_in _ ⟨by omega, by omega⟩
  have hwF : IntKind.i64.wrap ((s.y : Int) + 1) = (s.y : Int) + 1 := IntWalk.i64_in _ ⟨by omega, by omega⟩
  have hwG : IntKind.i64.wrap ((cr : Int) + 1) = (cr : Int) + 1 := IntWalk.i64_in _ ⟨by omega, by omega⟩
  obtain ⟨ln, hln⟩ : ∃ l, xs.length = l := ⟨_, rfl⟩
  have HLN := Lib.hid hln
  have HCALL : ∀ (i : Nat) (d : Int) (W : World), i ≤ 7 → Sl intE 1 W aa xs → Calls Tryz.prog 117 #[.agg #[.int .i64 kd, .int .i64 77, .bool false, .slice aa ln ca, .string tx], .int .i64 i, .int .i64 d] W fun e w' => e = .returned (.int .i64 (argA xs i d)) ∧ Below W.heap.size W w' := fun i d W hi hW => by
    rw [← hln]
    exact l03ArgG_c kd 77 false tx xs aa ca i d W hW hi hx8
  rw [hln]
  clear h ok ha hna hxr hx8 hn hA0 hp hmx hcr hpn hnn hcn hln
  go_enter Tryz.func82, Tryz.ntmps82
  go_wp2_with fail
  refine (HCALL 0 1 _ (by omega) (HA.out.alloc _)).mono ?_
  rintro e v0 ⟨rfl, hb0⟩
  rw [HA0.out]
  have HB0 : Hid (Below w.heap.size w v0) := Lib.hid (((Below.refl w.heap.size w).alloc (Nat.le_refl _) _).trans (hb0.mono (by simp)))
  have hz0 := HB0.out.size
  have q_l : w.heap.size < v0.heap.size := by have := hb0.size; simp at this; omega
  have q_0 : v0.cell? ⟨w.heap.size, 0, none⟩ = some (.int .i64 kd) := kC hb0 (by simp) (by simp [go_sem])
  have q_1 : v0.cell? ⟨w.heap.size, 1, none⟩ = some (.int .i64 77) := kC hb0 (by simp) (by simp [go_sem])
  have q_2 : v0.cell? ⟨w.heap.size, 2, none⟩ = some (.bool false) := kC hb0 (by simp) (by simp [go_sem])
  have q_3 : v0.cell? ⟨w.heap.size, 3, none⟩ = some (.slice aa ln ca) := kC hb0 (by simp) (by simp [go_sem])
  have q_4 : v0.cell? ⟨w.heap.size, 4, none⟩ = some (.string tx) := kC hb0 (by simp) (by simp [go_sem])
  clear hb0
  have q_b : ¬ w.heap.size = b := by omega
  have HA_nb : ∀ k ∈ blkOf aa, ¬ k = b := fun k hk => (HNA.out k hk).1
  have Hv0 := Lib.hid (HS.out.below HB0.out)
  have HA2 := Lib.hid (HA.out.keep HB0.out)
  have HUv0 : Hid (Upd b 0 (0 + 12) (fun k => k = g ∨ k ∈ blkOf ah) w v0) := Lib.hid (Upd.refl'.below HB0.out HS.out.lt)
  have HA2_nb := HA_nb
  have k_0 := Hv0.out.e0
  have k_1 := Hv0.out.e1
  have k_2 := Hv0.out.e2
  have k_3 := Hv0.out.e3
  have k_4 := Hv0.out.e4
  have k_5 := Hv0.out.e5
  have k_6 := Hv0.out.e6
  have k_7 := Hv0.out.e7
  have k_8 := Hv0.out.e8
  have k_9 := Hv0.out.e9
  have k_10 := Hv0.out.e10
  have k_11 := Hv0.out.e11
  have k_f := Hv0.out.fz
  have k_l := Hv0.out.lt
  go_upto_region 4 with fail
  have hSc1 := And.intro k_0 (And.intro k_2 k_3)
  refine wp_region_O (fun w' => w'.cell? ⟨b, 0, none⟩ = some (.int .i64 (s.w : Int)) ∧ w'.cell? ⟨b, 2, none⟩ = some (.int .i64 (s.x : Int)) ∧ w'.cell? ⟨b, 3, none⟩ = some (.int .i64 (s.y : Int))) [] [0,1,2,3,4,5,6,7,8,9,10,11,12,13,14,15,16,17,18,19,20] ?_
  iterate 21 (first | refine oW (h := ?_) | refine oL (hS := hSc1) (h := ?_))
  refine oD ?_
  obtain ⟨v1, hv1⟩ : ∃ x, v0.drew = x := ⟨_, rfl⟩
  have HBv1 : Hid (Below v0.heap.size v0 v1) := Lib.hid (by rw [← hv1]; exact (Below.refl _ _).drew)
  rw [hv1]
  have hzv1 := HBv1.out.size
  have Hv1 := Lib.hid (Hv0.out.below HBv1.out)
  have HUv1 : Hid (Upd b 0 (0 + 12) (fun k => k = g ∨ k ∈ blkOf ah) w v1) := Lib.hid (HUv0.out.below HBv1.out Hv0.out.lt)
  have qn_0 := kC HBv1.out q_l q_0
  have qn_1 := kC HBv1.out q_l q_1
  have qn_2 := kC HBv1.out q_l q_2
  have qn_3 := kC HBv1.out q_l q_3
  have qn_4 := kC HBv1.out q_l q_4
  have qn_l := Nat.lt_of_lt_of_le q_l HBv1.out.size
  clear q_0 q_1 q_2 q_3 q_4 q_l
  have HA2n := Lib.hid (HA2.out.keep HBv1.out)
  clear k_f k_l k_0 k_1 k_2 k_3 k_4 k_5 k_6 k_7 k_8 k_9 k_10 k_11 hv1 hSc1
  have k_0 := Hv1.out.e0
  have k_1 := Hv1.out.e1
  have k_2 := Hv1.out.e2
  have k_3 := Hv1.out.e3
  have k_4 := Hv1.out.e4
  have k_5 := Hv1.out.e5
  have k_6 := Hv1.out.e6
  have k_7 := Hv1.out.e7
  have k_8 := Hv1.out.e8
  have k_9 := Hv1.out.e9
  have k_10 := Hv1.out.e10
  have k_11 := Hv1.out.e11
  have k_f := Hv1.out.fz
  have k_l := Hv1.out.lt
  by_cases hin : s.top ≤ s.y ∧ s.y ≤ s.bot
  · have HI : Hid (inB (s.y : Int) (s.top : Int) (s.bot : Int) = true) := Lib.hid (by simp only [inB, Bool.and_eq_true, decide_eq_true_eq]; omega)
    have htb := HOK.out.tb
    have hbh := HOK.out.bh
    obtain ⟨m, hmm⟩ : ∃ m, min n (s.bot - s.y + 1) = m := ⟨_, rfl⟩
    have hmi2 : min (n : Int) ((s.bot : Int) - (s.y : Int) + 1) = (m : Int) := by omega
    have hm10 : m ≤ 10 := by omega
    have HM := Lib.hid hmm
    have hwI : IntKind.i64.wrap ((s.bot : Int) - (s.y : Int)) = (s.bot : Int) - (s.y : Int) := IntWalk.i64_in _ ⟨by omega, by omega⟩
    have hwJ : IntKind.i64.wrap ((s.bot : Int) - (s.y : Int) + 1) = (s.bot : Int) - (s.y : Int) + 1 := IntWalk.i64_in _ ⟨by omega, by omega⟩
    have hwK : IntKind.i64.wrap (-(m : Int)) = -(m : Int) := IntWalk.i64_in _ ⟨by omega, by omega⟩
    have HIN := Lib.hid hin
    clear hin hmm
    go_upto_region 36 with fail
    have hSc2 := And.intro k_3 (And.intro k_5 k_6)
    refine wp_region_O (fun w' => w'.cell? ⟨b, 3, none⟩ = some (.int .i64 (s.y : Int)) ∧ w'.cell? ⟨b, 5, none⟩ = some (.int .i64 (s.top : Int)) ∧ w'.cell? ⟨b, 6, none⟩ = some (.int .i64 (s.bot : Int))) [] [0,1,2,3,4,5,6,7,8,9,10,11,12] ?_
    iterate 12 (first | refine oW (h := ?_) | refine oL (hS := hSc2) (h := ?_))
    refine oO (hS := .inr hSc2) (h := ?_)
    intro K' hK
    go_simp
    refine (l01In_c _ _ _ _).mono ?_
    rw [HI.out]
    rintro e x1 ⟨rfl, rfl⟩
    refine oN hK (hS := .inr hSc2) (h := ?_)
    clear hK K'
    refine oD ?_
    obtain ⟨v2, hv2⟩ : ∃ x, v1.drew = x := ⟨_, rfl⟩
    have HBv2 : Hid (Below v1.heap.size v1 v2) := Lib.hid (by rw [← hv2]; exact (Below.refl _ _).drew)
    rw [hv2]
    have hzv2 := HBv2.out.size
    have Hv2 := Lib.hid (Hv1.out.below HBv2.out)
    have HUv2 : Hid (Upd b 0 (0 + 12) (fun k => k = g ∨ k ∈ blkOf ah) w v2) := Lib.hid (HUv1.out.below HBv2.out Hv1.out.lt)
    have qnn_0 := kC HBv2.out qn_l qn_0
    have qnn_1 := kC HBv2.out qn_l qn_1
    have qnn_2 := kC HBv2.out qn_l qn_2
    have qnn_3 := kC HBv2.out qn_l qn_3
    have qnn_4 := kC HBv2.out qn_l qn_4
    have qnn_l := Nat.lt_of_lt_of_le qn_l HBv2.out.size
    clear qn_0 qn_1 qn_2 qn_3 qn_4 qn_l
    have HA2nn := Lib.hid (HA2n.out.keep HBv2.out)
    clear k_f k_l k_0 k_1 k_2 k_3 k_4 k_5 k_6 k_7 k_8 k_9 k_10 k_11 hv2 hSc2
    have k_0 := Hv2.out.e0
    have k_1 := Hv2.out.e1
    have k_2 := Hv2.out.e2
    have k_3 := Hv2.out.e3
    have k_4 := Hv2.out.e4
    have k_5 := Hv2.out.e5
    have k_6 := Hv2.out.e6
    have k_7 := Hv2.out.e7
    have k_8 := Hv2.out.e8
    have k_9 := Hv2.out.e9
    have k_10 := Hv2.out.e10
    have k_11 := Hv2.out.e11
    have k_f := Hv2.out.fz
    have k_l := Hv2.out.lt
    go_upto_region 37 with fail
    have hSc3 := And.intro k_3 k_6
    refine wp_region_O (fun w' => w'.cell? ⟨b, 3, none⟩ = some (.int .i64 (s.y : Int)) ∧ w'.cell? ⟨b, 6, none⟩ = some (.int .i64 (s.bot : Int))) [] [0,1,2,3,4,5,6,7,8,9,10,11,12] ?_
    iterate 13 (first | refine oW (h := ?_) | refine oL (hS := hSc3) (h := ?_))
    refine oD ?_
    obtain ⟨v3, hv3⟩ : ∃ x, v2.drew = x := ⟨_, rfl⟩
    have HBv3 : Hid (Below v2.heap.size v2 v3) := Lib.hid (by rw [← hv3]; exact (Below.refl _ _).drew)
    rw [hv3]
    have hzv3 := HBv3.out.size
    have Hv3 := Lib.hid (Hv2.out.below HBv3.out)
    have HUv3 : Hid (Upd b 0 (0 + 12) (fun k => k = g ∨ k ∈ blkOf ah) w v3) := Lib.hid (HUv2.out.below HBv3.out Hv2.out.lt)
    have qnnn_0 := kC HBv3.out qnn_l qnn_0
    have qnnn_1 := kC HBv3.out qnn_l qnn_1
    have qnnn_2 := kC HBv3.out qnn_l qnn_2
    have qnnn_3 := kC HBv3.out qnn_l qnn_3
    have qnnn_4 := kC HBv3.out qnn_l qnn_4
    have qnnn_l := Nat.lt_of_lt_of_le qnn_l HBv3.out.size
    clear qnn_0 qnn_1 qnn_2 qnn_3 qnn_4 qnn_l
    have HA2nnn := Lib.hid (HA2nn.out.keep HBv3.out)
    clear k_f k_l k_0 k_1 k_2 k_3 k_4 k_5 k_6 k_7 k_8 k_9 k_10 k_11 hv3 hSc3
    have k_0 := Hv3.out.e0
    have k_1 := Hv3.out.e1
    have k_2 := Hv3.out.e2
    have k_3 := Hv3.out.e3
    have k_4 := Hv3.out.e4
    have k_5 := Hv3.out.e5
    have k_6 := Hv3.out.e6
    have k_7 := Hv3.out.e7
    have k_8 := Hv3.out.e8
    have k_9 := Hv3.out.e9
    have k_10 := Hv3.out.e10
    have k_11 := Hv3.out.e11
    have k_f := Hv3.out.fz
    have k_l := Hv3.out.lt
    go_upto_region 40 with fail
    have hSc4 := And.intro k_3 k_6
    refine wp_region_O (fun w' => w'.cell? ⟨b, 3, none⟩ = some (.int .i64 (s.y : Int)) ∧ w'.cell? ⟨b, 6, none⟩ = some (.int .i64 (s.bot : Int))) [] [0,1,2,3,4,5,6,7,8,9,10] ?_
    iterate 10 (first | refine oW (h := ?_) | refine oL (hS := hSc4) (h := ?_))
    refine oO (hS := .inr hSc4) (h := ?_)
    intro K' hK
    go_simp
    refine (withinU_c lo b s g cc ah dh _ s.y s.bot m Hv3.out.drew HOK.out HIN.out.2 HOK.out.bh hm10 (by show lo ≤ v3.heap.size; omega)).mono ?_
    rintro e x1 ⟨rfl, g1, cc1, ah1, dh1, ha, hu, hg, hh⟩
    have e1 := scU_same false s.y s.bot s m
    have HX := Lib.hid ha
    have HR : Hid (Upd b 0 (0 + 12) (fun k => k = g ∨ k ∈ blkOf ah) w x1 ∧ (g1 = g ∨ w.heap.size ≤ g1) ∧ ∀ i ∈ blkOf ah1, i ∈ blkOf ah ∨ w.heap.size ≤ i) := Lib.hid (by
      obtain ⟨g2, c2, a2, d2, _⟩ : ∃ g2 c2 a2 d2, ScrAt lo b 0 (scU false s.y s.bot m s) g2 c2 a2 d2 x1 := ⟨_, _, _, _, ha⟩
      refine ⟨HUv3.out.drew.transN hu (fun i hi => .inl hi), hg.imp id (fun h => by have : v3.heap.size ≤ g1 := h; omega), fun i hi => (hh i hi).imp id (fun h => by have : v3.heap.size ≤ i := h; omega)⟩)
    have hSx : x1.cell? ⟨b, 3, none⟩ = some (.int .i64 (s.y : Int)) ∧ x1.cell? ⟨b, 6, none⟩ = some (.int .i64 (s.bot : Int)) := ⟨by have := ha.c3; rw [e1.2.2.2.1] at this; exact this, by have := ha.c6; rw [e1.2.2.2.2.2.2.1] at this; exact this⟩
    have z_2 : x1.cell? ⟨b, 2, none⟩ = some (.int .i64 s.x) := by have := ha.c2; rw [e1.2.2.1] at this; exact this
    have z_f := ha.fz
    have z_l := ha.lt
    clear ha hu hg hh
    refine oN hK (hS := .inr hSx) (h := ?_)
    clear hK K'
    refine oD ?_
    go_wp2_with fail
    first | refine bodyPost_end (v := .tuple #[]) (by simp [results, Tryz.results82]) rfl ?_ | refine bodyPost_ret (v := .tuple #[]) (by simp [results, Tryz.results82]) rfl ?_
    refine ⟨rfl, ?_⟩
    unfold csiS
    rw [if_neg (by decide), if_neg (by decide), if_neg (by decide), if_neg (by decide), if_neg (by decide), if_neg (by decide), if_neg (by decide), if_neg (by decide), if_pos (by decide)]
    rw [if_pos HIN.out, HN.out, HM.out]
    exact ScrR.trans HX.out HR.out.1 HR.out.2.1 HR.out.2.2 (.mk (HX.out.setv2 0 rfl) (Upd.refl'.set2 _))
  · have HI : Hid (inB (s.y : Int) (s.top : Int) (s.bot : Int) = false) := Lib.hid (by simp only [inB, Bool.and_eq_false_iff, decide_eq_false_iff_not]; omega)
    go_upto_region 36 with fail
    have hSc2 := And.intro k_3 (And.intro k_5 k_6)
    refine wp_region_O (fun w' => w'.cell? ⟨b, 3, none⟩ = some (.int .i64 (s.y : Int)) ∧ w'.cell? ⟨b, 5, none⟩ = some (.int .i64 (s.top : Int)) ∧ w'.cell? ⟨b, 6, none⟩ = some (.int .i64 (s.bot : Int))) [] [0,1,2,3,4,5,6,7,8,9,10,11,12] ?_
    iterate 12 (first | refine oW (h := ?_) | refine oL (hS := hSc2) (h := ?_))
    refine oO (hS := .inr hSc2) (h := ?_)
    intro K' hK
    go_simp
    refine (l01In_c _ _ _ _).mono ?_
    rw [HI.out]
    rintro e x1 ⟨rfl, rfl⟩
    refine oN hK (hS := .inr hSc2) (h := ?_)
    clear hK K'
    refine oD ?_
    obtain ⟨v2, hv2⟩ : ∃ x, v1.drew = x := ⟨_, rfl⟩
    have HBv2 : Hid (Below v1.heap.size v1 v2) := Lib.hid (by rw [← hv2]; exact (Below.refl _ _).drew)
    rw [hv2]
    have hzv2 := HBv2.out.size
    have Hv2 := Lib.hid (Hv1.out.below HBv2.out)
    have HUv2 : Hid (Upd b 0 (0 + 12) (fun k => k = g ∨ k ∈ blkOf ah) w v2) := Lib.hid (HUv1.out.below HBv2.out Hv1.out.lt)
    have qnn_0 := kC HBv2.out qn_l qn_0
    have qnn_1 := kC HBv2.out qn_l qn_1
    have qnn_2 := kC HBv2.out qn_l qn_2
    have qnn_3 := kC HBv2.out qn_l qn_3
    have qnn_4 := kC HBv2.out qn_l qn_4
    have qnn_l := Nat.lt_of_lt_of_le qn_l HBv2.out.size
    clear qn_0 qn_1 qn_2 qn_3 qn_4 qn_l
    have HA2nn := Lib.hid (HA2n.out.keep HBv2.out)
    clear k_f k_l k_0 k_1 k_2 k_3 k_4 k_5 k_6 k_7 k_8 k_9 k_10 k_11 hv2 hSc2
    have k_0 := Hv2.out.e0
    have k_1 := Hv2.out.e1
    have k_2 := Hv2.out.e2
    have k_3 := Hv2.out.e3
    have k_4 := Hv2.out.e4
    have k_5 := Hv2.out.e5
    have k_6 := Hv2.out.e6
    have k_7 := Hv2.out.e7
    have k_8 := Hv2.out.e8
    have k_9 := Hv2.out.e9
    have k_10 := Hv2.out.e10
    have k_11 := Hv2.out.e11
    have k_f := Hv2.out.fz
    have k_l := Hv2.out.lt
    go_wp2_with fail
    first | refine bodyPost_end (v := .tuple #[]) (by simp [results, Tryz.results82]) rfl ?_ | refine bodyPost_ret (v := .tuple #[]) (by simp [results, Tryz.results82]) rfl ?_
    refine ⟨rfl, ?_⟩
    unfold csiS
    rw [if_neg (by decide), if_neg (by decide), if_neg (by decide), if_neg (by decide), if_neg (by decide), if_neg (by decide), if_neg (by decide), if_neg (by decide), if_pos (by decide)]
    rw [if_neg hin]
    exact .mk Hv2.out HUv2.out
theorem csi83_c (lo b : Nat) (s : Scr) (g cc : Nat) (ah : Option Addr) (dh : Nat) (w : World) (kd : Int) (xs : List Int) (aa : Option Addr) (ca : Nat) (tx : ByteArray) (h : ScrAt lo b 0 s g cc ah dh w) (ok : ScrOK s) (hlo : lo ≤ w.heap.size) (ha : Sl intE 1 w aa xs) (hna : ∀ k ∈ blkOf aa, k ≠ b ∧ k ≠ g ∧ k ∉ blkOf ah) (hx8 : xs.length ≤ 8) (hxr : ∀ x ∈ xs, -1 ≤ x ∧ x ≤ 9999) :
    Calls Tryz.prog 82 #[.pointer (some ⟨b, 0, none⟩), .agg #[.int .i64 kd, .int .i64 83, .bool false, .slice aa xs.length ca, .string tx]] w fun e w' => e = .returned (.tuple #[]) ∧ ScrR lo b 0 (csiS s 83 xs) g ah w w' := by
  have HS := Lib.hid h
  have HOK := Lib.hid ok
  have HA := Lib.hid ha
  have HNA := Lib.hid hna
  have HXR := Lib.hid hxr
  have HX8 := Lib.hid hx8
  have hw1 := ok.w1
  have hw2 := ok.w2
  have hh1 := ok.h1
  have hh2 := ok.h2
  have hx := ok.hx
  have hy := ok.hy
  have hcur := ok.cur
  have hcn := ok.cn
  have hlt := h.lt
  obtain ⟨n, hn⟩ : ∃ n, arg1 xs 0 = n := ⟨_, rfl⟩
  obtain ⟨A0, hA0⟩ : ∃ a, argA xs 0 1 = a := ⟨_, rfl⟩
  have hAb : -1 ≤ A0 ∧ A0 ≤ 9999 := by rw [← hA0]; exact argA_bd HXR.out (by omega) (by omega)
  have hm : max 1 A0 = (n : Int) := by rw [← hn, ← hA0]; unfold arg1; omega
  have hn1 : 1 ≤ n := by omega
  have hn2 : n ≤ 9999 := by omega
  have HN := Lib.hid hn
  have HA0 := Lib.hid hA0
  obtain ⟨p, hp⟩ : ∃ p, s.y * s.w = p := ⟨_, rfl⟩
  obtain ⟨mx, hmx⟩ : ∃ m, min s.x (s.w - 1) = m := ⟨_, rfl⟩
  obtain ⟨cr, hcr⟩ : ∃ c, curS s = c := ⟨_, rfl⟩
  obtain ⟨pn, hpn⟩ : ∃ q, (s.y + 1) * s.w = q := ⟨_, rfl⟩
  obtain ⟨nn, hnn⟩ : ∃ q, s.w * s.h = q := ⟨_, rfl⟩
  have hpi : (s.y : Int) * (s.w : Int) = (p : Int) := by rw [← hp]; exact (Int.natCast_mul _ _).symm
  have hpni : ((s.y : Int) + 1) * (s.w : Int) = (pn : Int) := by rw [← hpn]; exact (Int.natCast_mul (s.y + 1) s.w).symm
  have hnni : (s.w : Int) * (s.h : Int) = (nn : Int) := by rw [← hnn]; exact (Int.natCast_mul _ _).symm
  have hmi : min (s.x : Int) ((s.w : Int) - 1) = (mx : Int) := by omega
  have hcri : (p : Int) + (mx : Int) = (cr : Int) := by rw [← hcr, ← hp, ← hmx]; unfold curS; omega
  have hn240 : nn ≤ 240 := by rw [← hnn]; exact Nat.mul_le_mul hw2 hh2
  rw [hcr, hp, hpn, hnn] at hcur
  rw [hnn] at hcn
  obtain ⟨hc1, hc2, hc3⟩ := hcur
  have HCN := Lib.hid hcn
  have HP := Lib.hid hp
  have HMX := Lib.hid hmx
  have HCR := Lib.hid hcr
  have HPN := Lib.hid hpn
  have HNN := Lib.hid hnn
  have hwA : IntKind.i64.wrap ((s.w : Int) - 1) = (s.w : Int) - 1 := IntWalk.i64_in _ ⟨by omega, by omega⟩
  have hwB : IntKind.i64.wrap (p : Int) = (p : Int) := IntWalk.i64_in _ ⟨by omega, by omega⟩
  have hwC : IntKind.i64.wrap (cr : Int) = (cr : Int) := IntWalk.i64_in _ ⟨by omega, by omega⟩
  have hwD : IntKind.i64.wrap (pn : Int) = (pn : Int) := IntWalk.i64_in _ ⟨by omega, by omega⟩
  have hwE : IntKind.i64.wrap (nn : Int) = (nn : Int) := IntWalk.i64_in _ ⟨by omega, by omega⟩
  have hwF : IntKind.i64.wrap ((s.y : Int) + 1) = (s.y : Int) + 1 := IntWalk.i64_in _ ⟨by omega, by omega⟩
  have hwG : IntKind.i64.wrap ((cr : Int) + 1) = (cr : Int) + 1 := IntWalk.i64_in _ ⟨by omega, by omega⟩
  obtain ⟨ln, hln⟩ : ∃ l, xs.length = l := ⟨_, rfl⟩
  have HLN := Lib.hid hln
  have HCALL : ∀ (i : Nat) (d : Int) (W : World), i ≤ 7 → Sl intE 1 W aa xs → Calls Tryz.prog 117 #[.agg #[.int .i64 kd, .int .i64 83, .bool false, .slice aa ln ca, .string tx], .int .i64 i, .int .i64 d] W fun e w' => e = .returned (.int .i64 (argA xs i d)) ∧ Below W.heap.size W w' := fun i d W hi hW => by
    rw [← hln]
    exact l03ArgG_c kd 83 false tx xs aa ca i d W hW hi hx8
  rw [hln]
  clear h ok ha hna hxr hx8 hn hA0 hp hmx hcr hpn hnn hcn hln
  go_enter Tryz.func82, Tryz.ntmps82
  go_wp2_with fail
  refine (HCALL 0 1 _ (by omega) (HA.out.alloc _)).mono ?_
  rintro e v0 ⟨rfl, hb0⟩
  rw [HA0.out]
  have HB0 : Hid (Below w.heap.size w v0) := Lib.hid (((Below.refl w.heap.size w).alloc (Nat.le_refl _) _).trans (hb0.mono (by simp)))
  have hz0 := HB0.out.size
  have q_l : w.heap.size < v0.heap.size := by have := hb0.size; simp at this; omega
  have q_0 : v0.cell? ⟨w.heap.size, 0, none⟩ = some (.int .i64 kd) := kC hb0 (by simp) (by simp [go_sem])
  have q_1 : v0.cell? ⟨w.heap.size, 1, none⟩ = some (.int .i64 83) := kC hb0 (by simp) (by simp [go_sem])
  have q_2 : v0.cell? ⟨w.heap.size, 2, none⟩ = some (.bool false) := kC hb0 (by simp) (by simp [go_sem])
  have q_3 : v0.cell? ⟨w.heap.size, 3, none⟩ = some (.slice aa ln ca) := kC hb0 (by simp) (by simp [go_sem])
  have q_4 : v0.cell? ⟨w.heap.size, 4, none⟩ = some (.string tx) := kC hb0 (by simp) (by simp [go_sem])
  clear hb0
  have q_b : ¬ w.heap.size = b := by omega
  have HA_nb : ∀ k ∈ blkOf aa, ¬ k = b := fun k hk => (HNA.out k hk).1
  have Hv0 := Lib.hid (HS.out.below HB0.out)
  have HA2 := Lib.hid (HA.out.keep HB0.out)
  have HUv0 : Hid (Upd b 0 (0 + 12) (fun k => k = g ∨ k ∈ blkOf ah) w v0) := Lib.hid (Upd.refl'.below HB0.out HS.out.lt)
  have HA2_nb := HA_nb
  have k_0 := Hv0.out.e0
  have k_1 := Hv0.out.e1
  have k_2 := Hv0.out.e2
  have k_3 := Hv0.out.e3
  have k_4 := Hv0.out.e4
  have k_5 := Hv0.out.e5
  have k_6 := Hv0.out.e6
  have k_7 := Hv0.out.e7
  have k_8 := Hv0.out.e8
  have k_9 := Hv0.out.e9
  have k_10 := Hv0.out.e10
  have k_11 := Hv0.out.e11
  have k_f := Hv0.out.fz
  have k_l := Hv0.out.lt
  go_upto_region 4 with fail
  have hSc1 := And.intro k_0 (And.intro k_2 k_3)
  refine wp_region_O (fun w' => w'.cell? ⟨b, 0, none⟩ = some (.int .i64 (s.w : Int)) ∧ w'.cell? ⟨b, 2, none⟩ = some (.int .i64 (s.x : Int)) ∧ w'.cell? ⟨b, 3, none⟩ = some (.int .i64 (s.y : Int))) [] [0,1,2,3,4,5,6,7,8,9,10,11,12,13,14,15,16,17,18,19,20] ?_
  iterate 21 (first | refine oW (h := ?_) | refine oL (hS := hSc1) (h := ?_))
  refine oD ?_
  obtain ⟨v1, hv1⟩ : ∃ x, v0.drew = x := ⟨_, rfl⟩
  have HBv1 : Hid (Below v0.heap.size v0 v1) := Lib.hid (by rw [← hv1]; exact (Below.refl _ _).drew)
  rw [hv1]
  have hzv1 := HBv1.out.size
  have Hv1 := Lib.hid (Hv0.out.below HBv1.out)
  have HUv1 : Hid (Upd b 0 (0 + 12) (fun k => k = g ∨ k ∈ blkOf ah) w v1) := Lib.hid (HUv0.out.below HBv1.out Hv0.out.lt)
  have qn_0 := kC HBv1.out q_l q_0
  have qn_1 := kC HBv1.out q_l q_1
  have qn_2 := kC HBv1.out q_l q_2
  have qn_3 := kC HBv1.out q_l q_3
  have qn_4 := kC HBv1.out q_l q_4
  have qn_l := Nat.lt_of_lt_of_le q_l HBv1.out.size
  clear q_0 q_1 q_2 q_3 q_4 q_l
  have HA2n := Lib.hid (HA2.out.keep HBv1.out)
  clear k_f k_l k_0 k_1 k_2 k_3 k_4 k_5 k_6 k_7 k_8 k_9 k_10 k_11 hv1 hSc1
  have k_0 := Hv1.out.e0
  have k_1 := Hv1.out.e1
  have k_2 := Hv1.out.e2
  have k_3 := Hv1.out.e3
  have k_4 := Hv1.out.e4
  have k_5 := Hv1.out.e5
  have k_6 := Hv1.out.e6
  have k_7 := Hv1.out.e7
  have k_8 := Hv1.out.e8
  have k_9 := Hv1.out.e9
  have k_10 := Hv1.out.e10
  have k_11 := Hv1.out.e11
  have k_f := Hv1.out.fz
  have k_l := Hv1.out.lt
  have htb := HOK.out.tb
  have hbh := HOK.out.bh
  obtain ⟨m, hmm⟩ : ∃ m, min n (s.bot - s.top + 1) = m := ⟨_, rfl⟩
  have hmi2 : min (n : Int) ((s.bot : Int) - (s.top : Int) + 1) = (m : Int) := by omega
  have hm10 : m ≤ 10 := by omega
  have HM := Lib.hid hmm
  have hwI : IntKind.i64.wrap ((s.bot : Int) - (s.top : Int)) = (s.bot : Int) - (s.top : Int) := IntWalk.i64_in _ ⟨by omega, by omega⟩
  have hwJ : IntKind.i64.wrap ((s.bot : Int) - (s.top : Int) + 1) = (s.bot : Int) - (s.top : Int) + 1 := IntWalk.i64_in _ ⟨by omega, by omega⟩
  have hwK : IntKind.i64.wrap (-(m : Int)) = -(m : Int) := IntWalk.i64_in _ ⟨by omega, by omega⟩
  clear hmm
  go_upto_region 43 with fail
  have hSc2 := And.intro k_5 k_6
  refine wp_region_O (fun w' => w'.cell? ⟨b, 5, none⟩ = some (.int .i64 (s.top : Int)) ∧ w'.cell? ⟨b, 6, none⟩ = some (.int .i64 (s.bot : Int))) [] [0,1,2,3,4,5,6,7,8,9,10,11,12,13,14,15,16,17,18,19,20,21] ?_
  iterate 21 (first | refine oW (h := ?_) | refine oL (hS := hSc2) (h := ?_))
  refine oO (hS := .inr hSc2) (h := ?_)
  intro K' hK
  go_simp
  refine (scrollU_c lo b s g cc ah dh _ s.top s.bot m Hv1.out.drew HOK.out (Nat.le_of_lt HOK.out.tb) HOK.out.bh hm10 (by show lo ≤ v1.heap.size; omega)).mono ?_
  rintro e x1 ⟨rfl, hr, _⟩
  have HR : Hid (ScrR lo b 0 (scU true s.top s.bot m s) g ah w x1) := Lib.hid (ScrR.trans Hv1.out.drew HUv1.out.drew (.inl rfl) (fun _ h => .inl h) hr)
  have e1 := scU_same true s.top s.bot s m
  obtain ⟨g1, cc1, ah1, dh1, ha, _⟩ := hr
  have hSx : x1.cell? ⟨b, 5, none⟩ = some (.int .i64 (s.top : Int)) ∧ x1.cell? ⟨b, 6, none⟩ = some (.int .i64 (s.bot : Int)) := ⟨by have := ha.c5; rw [e1.2.2.2.2.2.1] at this; exact this, by have := ha.c6; rw [e1.2.2.2.2.2.2.1] at this; exact this⟩
  clear ha
  refine oN hK (hS := .inr hSx) (h := ?_)
  clear hK K'
  refine oD ?_
  go_wp2_with fail
  first | refine bodyPost_end (v := .tuple #[]) (by simp [results, Tryz.results82]) rfl ?_ | refine bodyPost_ret (v := .tuple #[]) (by simp [results, Tryz.results82]) rfl ?_
  refine ⟨rfl, ?_⟩
  unfold csiS
  rw [if_neg (by decide), if_neg (by decide), if_neg (by decide), if_neg (by decide), if_neg (by decide), if_neg (by decide), if_neg (by decide), if_neg (by decide), if_neg (by decide), if_pos (by decide)]
  rw [HN.out, HM.out]
  exact HR.out
theorem csi84_c (lo b : Nat) (s : Scr) (g cc : Nat) (ah : Option Addr) (dh : Nat) (w : World) (kd : Int) (xs : List Int) (aa : Option Addr) (ca : Nat) (tx : ByteArray) (h : ScrAt lo b 0 s g cc ah dh w) (ok : ScrOK s) (hlo : lo ≤ w.heap.size) (ha : Sl intE 1 w aa xs) (hna : ∀ k ∈ blkOf aa, k ≠ b ∧ k ≠ g ∧ k ∉ blkOf ah) (hx8 : xs.length ≤ 8) (hxr : ∀ x ∈ xs, -1 ≤ x ∧ x ≤ 9999) :
    Calls Tryz.prog 82 #[.pointer (some ⟨b, 0, none⟩), .agg #[.int .i64 kd, .int .i64 84, .bool false, .slice aa xs.length ca, .string tx]] w fun e w' => e = .returned (.tuple #[]) ∧ ScrR lo b 0 (csiS s 84 xs) g ah w w' := by
  have HS := Lib.hid h
  have HOK := Lib.hid ok
  have HA := Lib.hid ha
  have HNA := Lib.hid hna
  have HXR := Lib.hid hxr
  have HX8 := Lib.hid hx8
  have hw1 := ok.w1
  have hw2 := ok.w2
  have hh1 := ok.h1
  have hh2 := ok.h2
  have hx := ok.hx
  have hy := ok.hy
  have hcur := ok.cur
  have hcn := ok.cn
  have hlt := h.lt
  obtain ⟨n, hn⟩ : ∃ n, arg1 xs 0 = n := ⟨_, rfl⟩
  obtain ⟨A0, hA0⟩ : ∃ a, argA xs 0 1 = a := ⟨_, rfl⟩
  have hAb : -1 ≤ A0 ∧ A0 ≤ 9999 := by rw [← hA0]; exact argA_bd HXR.out (by omega) (by omega)
  have hm : max 1 A0 = (n : Int) := by rw [← hn, ← hA0]; unfold arg1; omega
  have hn1 : 1 ≤ n := by omega
  have hn2 : n ≤ 9999 := by omega
  have HN := Lib.hid hn
  have HA0 := Lib.hid hA0
  obtain ⟨p, hp⟩ : ∃ p, s.y * s.w = p := ⟨_, rfl⟩
  obtain ⟨mx, hmx⟩ : ∃ m, min s.x (s.w - 1) = m := ⟨_, rfl⟩
  obtain ⟨cr, hcr⟩ : ∃ c, curS s = c := ⟨_, rfl⟩
  obtain ⟨pn, hpn⟩ : ∃ q, (s.y + 1) * s.w = q := ⟨_, rfl⟩
  obtain ⟨nn, hnn⟩ : ∃ q, s.w * s.h = q := ⟨_, rfl⟩
  have hpi : (s.y : Int) * (s.w : Int) = (p : Int) := by rw [← hp]; exact (Int.natCast_mul _ _).symm
  have hpni : ((s.y : Int) + 1) * (s.w : Int) = (pn : Int) := by rw [← hpn]; exact (Int.natCast_mul (s.y + 1) s.w).symm
  have hnni : (s.w : Int) * (s.h : Int) = (nn : Int) := by rw [← hnn]; exact (Int.natCast_mul _ _).symm
  have hmi : min (s.x : Int) ((s.w : Int) - 1) = (mx : Int) := by omega
  have hcri : (p : Int) + (mx : Int) = (cr : Int) := by rw [← hcr, ← hp, ← hmx]; unfold curS; omega
  have hn240 : nn ≤ 240 := by rw [← hnn]; exact Nat.mul_le_mul hw2 hh2
  rw [hcr, hp, hpn, hnn] at hcur
  rw [hnn] at hcn
  obtain ⟨hc1, hc2, hc3⟩ := hcur
  have HCN := Lib.hid hcn
  have HP := Lib.hid hp
  have HMX := Lib.hid hmx
  have HCR := Lib.hid hcr
  have HPN := Lib.hid hpn
  have HNN := Lib.hid hnn
  have hwA : IntKind.i64.wrap ((s.w : Int) - 1) = (s.w : Int) - 1 := IntWalk.i64_in _ ⟨by omega, by omega⟩
  have hwB : IntKind.i64.wrap (p : Int) = (p : Int) := IntWalk.i64_in _ ⟨by omega, by omega⟩
  have hwC : IntKind.i64.wrap (cr : Int) = (cr : Int) := IntWalk.i64_in _ ⟨by omega, by omega⟩
  have hwD : IntKind.i64.wrap (pn : Int) = (pn : Int) := IntWalk.i64_in _ ⟨by omega, by omega⟩
  have hwE : IntKind.i64.wrap (nn : Int) = (nn : Int) := IntWalk.i64_in _ ⟨by omega, by omega⟩
  have hwF : IntKind.i64.wrap ((s.y : Int) + 1) = (s.y : Int) + 1 := IntWalk.i64_in _ ⟨by omega, by omega⟩
  have hwG : IntKind.i64.wrap ((cr : Int) + 1) = (cr : Int) + 1 := IntWalk.i64_in _ ⟨by omega, by omega⟩
  obtain ⟨ln, hln⟩ : ∃ l, xs.length = l := ⟨_, rfl⟩
  have HLN := Lib.hid hln
  have HCALL : ∀ (i : Nat) (d : Int) (W : World), i ≤ 7 → Sl intE 1 W aa xs → Calls Tryz.prog 117 #[.agg #[.int .i64 kd, .int .i64 84, .bool false, .slice aa ln ca, .string tx], .int .i64 i, .int .i64 d] W fun e w' => e = .returned (.int .i64 (argA xs i d)) ∧ Below W.heap.size W w' := fun i d W hi hW => by
    rw [← hln]
    exact l03ArgG_c kd 84 false tx xs aa ca i d W hW hi hx8
  rw [hln]
  clear h ok ha hna hxr hx8 hn hA0 hp hmx hcr hpn hnn hcn hln
  go_enter Tryz.func82, Tryz.ntmps82
  go_wp2_with fail
  refine (HCALL 0 1 _ (by omega) (HA.out.alloc _)).mono ?_
  rintro e v0 ⟨rfl, hb0⟩
  rw [HA0.out]
  have HB0 : Hid (Below w.heap.size w v0) := Lib.hid (((Below.refl w.heap.size w).alloc (Nat.le_refl _) _).trans (hb0.mono (by simp)))
  have hz0 := HB0.out.size
  have q_l : w.heap.size < v0.heap.size := by have := hb0.size; simp at this; omega
  have q_0 : v0.cell? ⟨w.heap.size, 0, none⟩ = some (.int .i64 kd) := kC hb0 (by simp) (by simp [go_sem])
  have q_1 : v0.cell? ⟨w.heap.size, 1, none⟩ = some (.int .i64 84) := kC hb0 (by simp) (by simp [go_sem])
  have q_2 : v0.cell? ⟨w.heap.size, 2, none⟩ = some (.bool false) := kC hb0 (by simp) (by simp [go_sem])
  have q_3 : v0.cell? ⟨w.heap.size, 3, none⟩ = some (.slice aa ln ca) := kC hb0 (by simp) (by simp [go_sem])
  have q_4 : v0.cell? ⟨w.heap.size, 4, none⟩ = some (.string tx) := kC hb0 (by simp) (by simp [go_sem])
  clear hb0
  have q_b : ¬ w.heap.size = b := by omega
  have HA_nb : ∀ k ∈ blkOf aa, ¬ k = b := fun k hk => (HNA.out k hk).1
  have Hv0 := Lib.hid (HS.out.below HB0.out)
  have HA2 := Lib.hid (HA.out.keep HB0.out)
  have HUv0 : Hid (Upd b 0 (0 + 12) (fun k => k = g ∨ k ∈ blkOf ah) w v0) := Lib.hid (Upd.refl'.below HB0.out HS.out.lt)
  have HA2_nb := HA_nb
  have k_0 := Hv0.out.e0
  have k_1 := Hv0.out.e1
  have k_2 := Hv0.out.e2
  have k_3 := Hv0.out.e3
  have k_4 := Hv0.out.e4
  have k_5 := Hv0.out.e5
  have k_6 := Hv0.out.e6
  have k_7 := Hv0.out.e7
  have k_8 := Hv0.out.e8
  have k_9 := Hv0.out.e9
  have k_10 := Hv0.out.e10
  have k_11 := Hv0.out.e11
  have k_f := Hv0.out.fz
  have k_l := Hv0.out.lt
  go_upto_region 4 with fail
  have hSc1 := And.intro k_0 (And.intro k_2 k_3)
  refine wp_region_O (fun w' => w'.cell? ⟨b, 0, none⟩ = some (.int .i64 (s.w : Int)) ∧ w'.cell? ⟨b, 2, none⟩ = some (.int .i64 (s.x : Int)) ∧ w'.cell? ⟨b, 3, none⟩ = some (.int .i64 (s.y : Int))) [] [0,1,2,3,4,5,6,7,8,9,10,11,12,13,14,15,16,17,18,19,20] ?_
  iterate 21 (first | refine oW (h := ?_) | refine oL (hS := hSc1) (h := ?_))
  refine oD ?_
  obtain ⟨v1, hv1⟩ : ∃ x, v0.drew = x := ⟨_, rfl⟩
  have HBv1 : Hid (Below v0.heap.size v0 v1) := Lib.hid (by rw [← hv1]; exact (Below.refl _ _).drew)
  rw [hv1]
  have hzv1 := HBv1.out.size
  have Hv1 := Lib.hid (Hv0.out.below HBv1.out)
  have HUv1 : Hid (Upd b 0 (0 + 12) (fun k => k = g ∨ k ∈ blkOf ah) w v1) := Lib.hid (HUv0.out.below HBv1.out Hv0.out.lt)
  have qn_0 := kC HBv1.out q_l q_0
  have qn_1 := kC HBv1.out q_l q_1
  have qn_2 := kC HBv1.out q_l q_2
  have qn_3 := kC HBv1.out q_l q_3
  have qn_4 := kC HBv1.out q_l q_4
  have qn_l := Nat.lt_of_lt_of_le q_l HBv1.out.size
  clear q_0 q_1 q_2 q_3 q_4 q_l
  have HA2n := Lib.hid (HA2.out.keep HBv1.out)
  clear k_f k_l k_0 k_1 k_2 k_3 k_4 k_5 k_6 k_7 k_8 k_9 k_10 k_11 hv1 hSc1
  have k_0 := Hv1.out.e0
  have k_1 := Hv1.out.e1
  have k_2 := Hv1.out.e2
  have k_3 := Hv1.out.e3
  have k_4 := Hv1.out.e4
  have k_5 := Hv1.out.e5
  have k_6 := Hv1.out.e6
  have k_7 := Hv1.out.e7
  have k_8 := Hv1.out.e8
  have k_9 := Hv1.out.e9
  have k_10 := Hv1.out.e10
  have k_11 := Hv1.out.e11
  have k_f := Hv1.out.fz
  have k_l := Hv1.out.lt
  have htb := HOK.out.tb
  have hbh := HOK.out.bh
  obtain ⟨m, hmm⟩ : ∃ m, min n (s.bot - s.top + 1) = m := ⟨_, rfl⟩
  have hmi2 : min (n : Int) ((s.bot : Int) - (s.top : Int) + 1) = (m : Int) := by omega
  have hm10 : m ≤ 10 := by omega
  have HM := Lib.hid hmm
  have hwI : IntKind.i64.wrap ((s.bot : Int) - (s.top : Int)) = (s.bot : Int) - (s.top : Int) := IntWalk.i64_in _ ⟨by omega, by omega⟩
  have hwJ : IntKind.i64.wrap ((s.bot : Int) - (s.top : Int) + 1) = (s.bot : Int) - (s.top : Int) + 1 := IntWalk.i64_in _ ⟨by omega, by omega⟩
  have hwK : IntKind.i64.wrap (-(m : Int)) = -(m : Int) := IntWalk.i64_in _ ⟨by omega, by omega⟩
  clear hmm
  go_upto_region 45 with fail
  have hSc2 := And.intro k_5 k_6
  refine wp_region_O (fun w' => w'.cell? ⟨b, 5, none⟩ = some (.int .i64 (s.top : Int)) ∧ w'.cell? ⟨b, 6, none⟩ = some (.int .i64 (s.bot : Int))) [] [0,1,2,3,4,5,6,7,8,9,10,11,12,13,14,15,16,17,18,19,20,21,22] ?_
  iterate 22 (first | refine oW (h := ?_) | refine oL (hS := hSc2) (h := ?_))
  refine oO (hS := .inr hSc2) (h := ?_)
  intro K' hK
  go_simp
  refine (scrollD_c lo b s g cc ah dh _ s.top s.bot m Hv1.out.drew HOK.out (Nat.le_of_lt HOK.out.tb) HOK.out.bh hm10).mono ?_
  rintro e x1 ⟨rfl, ha, hc⟩
  have HR : Hid (ScrR lo b 0 (scD s.top s.bot m s) g ah w x1) := Lib.hid (.mk ha (HUv1.out.drew.transN (Upd.ofCh (S := fun i => i = g) hc Hv1.out.lt (fun e => HS.out.gb e.symm) (fun i hi => .inl hi)) (fun i hi => .inl (.inl hi))))
  have e1 := scD_same s.top s.bot s m
  have hSx : x1.cell? ⟨b, 5, none⟩ = some (.int .i64 (s.top : Int)) ∧ x1.cell? ⟨b, 6, none⟩ = some (.int .i64 (s.bot : Int)) := ⟨by have := ha.c5; rw [e1.2.2.2.2.2.1] at this; exact this, by have := ha.c6; rw [e1.2.2.2.2.2.2.1] at this; exact this⟩
  clear ha hc
  refine oN hK (hS := .inr hSx) (h := ?_)
  clear hK K'
  refine oD ?_
  go_wp2_with fail
  first | refine bodyPost_end (v := .tuple #[]) (by simp [results, Tryz.results82]) rfl ?_ | refine bodyPost_ret (v := .tuple #[]) (by simp [results, Tryz.results82]) rfl ?_
  refine ⟨rfl, ?_⟩
  unfold csiS
  rw [if_neg (by decide), if_neg (by decide), if_neg (by decide), if_neg (by decide), if_neg (by decide), if_neg (by decide), if_neg (by decide), if_neg (by decide), if_neg (by decide), if_neg (by decide), if_pos (by decide)]
  rw [HN.out, HM.out]
  exact HR.out
end
section
open Go.RowKit
theorem csiP_c (lo b : Nat) (s : Scr) (g cc : Nat) (ah : Option Addr) (dh : Nat) (w : World) (kd c : Int) (xs : List Int) (aa : Option Addr) (ca : Nat) (tx : ByteArray) (h : ScrAt lo b 0 s g cc ah dh w) :
    Calls Tryz.prog 82 #[.pointer (some ⟨b, 0, none⟩), .agg #[.int .i64 kd, .int .i64 c, .bool true, .slice aa xs.length ca, .string tx]] w fun e w' => e = .returned (.tuple #[]) ∧ ScrR lo b 0 s g ah w w' := by
  have HS := Lib.hid h
  obtain ⟨ln, hln⟩ : ∃ l, xs.length = l := ⟨_, rfl⟩
  rw [hln]
  clear h hln
  go_enter Tryz.func82, Tryz.ntmps82
  go_wp2_with fail
  refine bodyPost_ret (v := .tuple #[]) (by simp [results, Tryz.results82]) rfl ?_
  exact ⟨rfl, .mk (HS.out.alloc _) (Upd.refl'.below ((Below.refl _ _).alloc (Nat.le_refl _) _) HS.out.lt)⟩
theorem scsi_c (lo b : Nat) (s : Scr) (g cc : Nat) (ah : Option Addr) (dh : Nat) (w : World) (kd c : Int) (pv : Bool) (xs : List Int) (aa : Option Addr) (ca : Nat) (tx : ByteArray) (h : ScrAt lo b 0 s g cc ah dh w) (ok : ScrOK s) (hlo : lo ≤ w.heap.size) (ha : Sl intE 1 w aa xs) (hna : ∀ k ∈ blkOf aa, k ≠ b ∧ k ≠ g ∧ k ∉ blkOf ah) (hx8 : xs.length ≤ 8) (hxr : ∀ x ∈ xs, -1 ≤ x ∧ x ≤ 9999) :
    Calls Tryz.prog 82 #[.pointer (some ⟨b, 0, none⟩), .agg #[.int .i64 kd, .int .i64 c, .bool pv, .slice aa xs.length ca, .string tx]] w fun e w' => e = .returned (.tuple #[]) ∧ ScrR lo b 0 (if pv = true then s else csiS s c xs) g ah w w' := by
  cases pv with
  | true => exact csiP_c lo b s g cc ah dh w kd c xs aa ca tx h
  | false =>
    rw [if_neg (by decide)]
    by_cases h65 : c = 65
    · subst h65; exact csi65_c lo b s g cc ah dh w kd xs aa ca tx h ok hlo ha hna hx8 hxr
    by_cases h66 : c = 66
    · subst h66; exact csi66_c lo b s g cc ah dh w kd xs aa ca tx h ok hlo ha hna hx8 hxr
    by_cases h67 : c = 67
    · subst h67; exact csi67_c lo b s g cc ah dh w kd xs aa ca tx h ok hlo ha hna hx8 hxr
    by_cases h68 : c = 68
    · subst h68; exact csi68_c lo b s g cc ah dh w kd xs aa ca tx h ok hlo ha hna hx8 hxr
    by_cases h72 : c = 72
    · subst h72; exact csi72_c lo b s g cc ah dh w kd xs aa ca tx h ok hlo ha hna hx8 hxr
    by_cases h102 : c = 102
    · subst h102; exact csi102_c lo b s g cc ah dh w kd xs aa ca tx h ok hlo ha hna hx8 hxr
    by_cases h74 : c = 74
    · subst h74; exact csi74_c lo b s g cc ah dh w kd xs aa ca tx h ok hlo ha hna hx8 hxr
    by_cases h75 : c = 75
    · subst h75; exact csi75_c lo b s g cc ah dh w kd xs aa ca tx h ok hlo ha hna hx8 hxr
    by_cases h76 : c = 76
    · subst h76; exact csi76_c lo b s g cc ah dh w kd xs aa ca tx h ok hlo ha hna hx8 hxr
    by_cases h77 : c = 77
    · subst h77; exact csi77_c lo b s g cc ah dh w kd xs aa ca tx h ok hlo ha hna hx8 hxr
    by_cases h83 : c = 83
    · subst h83; exact csi83_c lo b s g cc ah dh w kd xs aa ca tx h ok hlo ha hna hx8 hxr
    by_cases h84 : c = 84
    · subst h84; exact csi84_c lo b s g cc ah dh w kd xs aa ca tx h ok hlo ha hna hx8 hxr
    by_cases h109 : c = 109
    · subst h109; exact csi109_c lo b s g cc ah dh w kd xs aa ca tx h ok hlo ha hna hx8 hxr
    by_cases h114 : c = 114
    · subst h114; exact csi114_c lo b s g cc ah dh w kd xs aa ca tx h ok hlo ha hna hx8 hxr
    refine csix_c lo b s g cc ah dh w kd xs aa ca tx c (fun v hv => ?_) h ok hlo ha hna hx8 hxr
    simp only [List.mem_cons, List.not_mem_nil, or_false] at hv
    rcases hv with rfl | rfl | rfl | rfl | rfl | rfl | rfl | rfl | rfl | rfl | rfl | rfl | rfl | rfl <;> assumption
theorem AcOK.xs4 {n : Int} {pv : Bool} {xs : List Int} {tx : ByteArray} (h : AcOK ⟨4, n, pv, xs, tx⟩) : xs.length ≤ 8 ∧ ∀ x ∈ xs, -1 ≤ x ∧ x ≤ 9999 := by
  rcases h with ⟨_, _, h, _⟩ | ⟨_, h, _⟩
  · simp only [argsB, Bool.and_eq_true, decide_eq_true_eq, List.all_eq_true] at h
    exact ⟨h.1.2, h.2⟩
  · simp only at h
    subst h
    exact ⟨by decide, by simp⟩
theorem do_c (lo b : Nat) (s : Scr) (g cc : Nat) (ah : Option Addr) (dh : Nat) (w : World) (a : AV) (aa : Option Addr) (ca : Nat) (h : ScrAt lo b 0 s g cc ah dh w) (ok : ScrOK s) (hlo : lo ≤ w.heap.size) (hac : AcOK a) (ha : Sl intE 1 w aa a.args) (hna : ∀ k ∈ blkOf aa, k ≠ b ∧ k ≠ g ∧ k ∉ blkOf ah) :
    Calls Tryz.prog 40 #[.pointer (some ⟨b, 0, none⟩), .agg #[.int .i64 a.kind, .int .i64 a.n, .bool a.priv, .slice aa a.args.length ca, .string a.text]] w fun e w' => e = .returned (.tuple #[]) ∧ ScrR lo b 0 (actS s a) g ah w w' := by
  obtain ⟨kd, n, pv, xs, tx⟩ := a
  have HOK := Lib.hid ok
  obtain ⟨w1, hw1⟩ : ∃ x, w.alloc (.cells #[.int .i64 kd, .int .i64 n, .bool pv, .slice aa xs.length ca, .string tx] 38) = x := ⟨_, rfl⟩
  have HB1 : Hid (Below w.heap.size w w1) := Lib.hid (by rw [← hw1]; exact (Below.refl _ _).alloc (Nat.le_refl _) _)
  have hz1 := HB1.out.size
  have HS1 := Lib.hid (h.below HB1.out)
  have HU1 : Hid (Upd b 0 (0 + 12) (fun k => k = g ∨ k ∈ blkOf ah) w w1) := Lib.hid (Upd.refl'.below HB1.out h.lt)
  have HA1 := Lib.hid (ha.keep HB1.out)
  have HNA := Lib.hid hna
  have q_0 : w1.cell? ⟨w.heap.size, 0, none⟩ = some (.int .i64 kd) := by rw [← hw1]; simp [go_sem]
  have q_1 : w1.cell? ⟨w.heap.size, 1, none⟩ = some (.int .i64 n) := by rw [← hw1]; simp [go_sem]
  have q_2 : w1.cell? ⟨w.heap.size, 2, none⟩ = some (.bool pv) := by rw [← hw1]; simp [go_sem]
  have q_3 : w1.cell? ⟨w.heap.size, 3, none⟩ = some (.slice aa xs.length ca) := by rw [← hw1]; simp [go_sem]
  have q_4 : w1.cell? ⟨w.heap.size, 4, none⟩ = some (.string tx) := by rw [← hw1]; simp [go_sem]
  have hAC : Hid (AcOK ⟨kd, n, pv, xs, tx⟩) := Lib.hid hac
  have hlo1 : lo ≤ w1.heap.size := by omega
  clear h ok ha hna hac
  by_cases hk1 : kd = 1
  · subst hk1
    go_enter Tryz.func40, Tryz.ntmps40
    go_upto_region 1 with fail
    go_wp2_with fail
    refine (print_c lo b s g cc ah dh _ n HS1.out HOK.out hlo1).mono ?_
    rintro e x1 ⟨rfl, hr⟩
    have HR := Lib.hid hr
    clear hr
    go_wp2_with fail
    refine bodyPost_end (v := .tuple #[]) (by simp [results, Tryz.results40]) rfl ?_
    refine ⟨rfl, ScrR.trans HS1.out HU1.out (.inl rfl) (fun _ h => .inl h) ?_⟩
    unfold actS
    rw [if_pos rfl]
    exact HR.out
  by_cases hk2 : kd = 2
  · subst hk2
    go_enter Tryz.func40, Tryz.ntmps40
    go_upto_region 1 with fail
    go_wp2_with fail
    refine (control_c lo b s g cc ah dh _ n HS1.out HOK.out hlo1).mono ?_
    rintro e x1 ⟨rfl, hr⟩
    have HR := Lib.hid hr
    clear hr
    go_wp2_with fail
    refine bodyPost_end (v := .tuple #[]) (by simp [results, Tryz.results40]) rfl ?_
    refine ⟨rfl, ScrR.trans HS1.out HU1.out (.inl rfl) (fun _ h => .inl h) ?_⟩
    unfold actS
    rw [if_neg (by show ¬ (2 : Int) = 1; decide), if_pos rfl]
    exact HR.out
  by_cases hk3 : kd = 3
  · subst hk3
    go_enter Tryz.func40, Tryz.ntmps40
    go_upto_region 1 with fail
    go_wp2_with fail
    refine (escape_c lo b s g cc ah dh _ n HS1.out HOK.out hlo1).mono ?_
    rintro e x1 ⟨rfl, hr⟩
    have HR := Lib.hid hr
    clear hr
    go_wp2_with fail
    refine bodyPost_end (v := .tuple #[]) (by simp [results, Tryz.results40]) rfl ?_
    refine ⟨rfl, ScrR.trans HS1.out HU1.out (.inl rfl) (fun _ h => .inl h) ?_⟩
    unfold actS
    rw [if_neg (by show ¬ (3 : Int) = 1; decide), if_neg (by show ¬ (3 : Int) = 2; decide), if_pos rfl]
    exact HR.out
  by_cases hk4 : kd = 4
  · subst hk4
    go_enter Tryz.func40, Tryz.ntmps40
    go_upto_region 1 with fail
    go_wp2_with fail
    refine (scsi_c lo b s g cc ah dh _ 4 n pv xs aa ca tx HS1.out HOK.out hlo1 HA1.out HNA.out (AcOK.xs4 hAC.out).1 (AcOK.xs4 hAC.out).2).mono ?_
    rintro e x1 ⟨rfl, hr⟩
    have HR := Lib.hid hr
    clear hr
    go_wp2_with fail
    refine bodyPost_end (v := .tuple #[]) (by simp [results, Tryz.results40]) rfl ?_
    refine ⟨rfl, ScrR.trans HS1.out HU1.out (.inl rfl) (fun _ h => .inl h) ?_⟩
    unfold actS
    rw [if_neg (by show ¬ (4 : Int) = 1; decide), if_neg (by show ¬ (4 : Int) = 2; decide), if_neg (by show ¬ (4 : Int) = 3; decide), if_pos rfl]
    exact HR.out
  by_cases hk5 : kd = 5
  · subst hk5
    go_enter Tryz.func40, Tryz.ntmps40
    go_upto_region 1 with fail
    have k_9 := HS1.out.c9
    have k_f := HS1.out.fz
    have k_l := HS1.out.lt
    go_wp2_with fail
    refine bodyPost_end (v := .tuple #[]) (by simp [results, Tryz.results40]) rfl ?_
    refine ⟨rfl, ?_⟩
    unfold actS
    rw [if_neg (by show ¬ (5 : Int) = 1; decide), if_neg (by show ¬ (5 : Int) = 2; decide), if_neg (by show ¬ (5 : Int) = 3; decide), if_neg (by show ¬ (5 : Int) = 4; decide), if_pos rfl]
    exact .mk (HS1.out.set9 tx) (HU1.out.set9 _)
  rcases hAC.out with ⟨hk, _⟩ | ⟨_, _, ⟨hk, _⟩ | ⟨_, ⟨hk, _⟩ | ⟨hk, _⟩ | ⟨hk, _⟩⟩⟩
  · exact absurd hk hk4
  · exact absurd hk hk5
  · exact absurd hk hk1
  · exact absurd hk hk2
  · exact absurd hk hk3
end
section
open Go.RowKit
theorem Below.thn {w w1 w2 : World} (h : Below w.heap.size w w1) (k : Below w1.heap.size w1 w2) : Below w.heap.size w w2 := h.trans (k.mono h.size)
structure Bx (w : World) (b : Nat) (vs : List Value) : Prop where
  cs : ∀ j v, vs[j]? = some v → w.cell? ⟨b, j, none⟩ = some v
  lt : b < w.heap.size
  fz : ∀ o, w.frozen? ⟨b, o, none⟩ = false
section
variable {w w' : World} {b : Nat} {vs : List Value} {M : Nat → Prop}
theorem Bx.c (h : Bx w b vs) (j : Nat) {v : Value} (hj : vs[j]? = some v := by rfl) : w.cell? ⟨b, j, none⟩ = some v := h.cs j v hj
theorem Bx.below (h : Bx w b vs) (k : Below w.heap.size w w') : Bx w' b vs :=
  ⟨fun j v hv => (k.cell (p := ⟨b, j, none⟩) h.lt).trans (h.cs j v hv), Nat.lt_of_lt_of_le h.lt k.size, fun o => (k.frozen (p := ⟨b, o, none⟩) h.lt).trans (h.fz o)⟩
theorem Bx.ch (h : Bx w b vs) (k : Ch M w w') (hM : ¬ M b) : Bx w' b vs :=
  ⟨fun j v hv => (k.cell (p := ⟨b, j, none⟩) h.lt hM).trans (h.cs j v hv), Nat.lt_of_lt_of_le h.lt k.size, fun o => (k.frozen (p := ⟨b, o, none⟩) h.lt hM).trans (h.fz o)⟩
theorem Bx.drew (h : Bx w b vs) : Bx w.drew b vs := h.below ((Below.refl _ _).drew)
theorem Bx.alloc1 (h : Bx w b vs) (x : Obj) : Bx (w.alloc x) b vs := h.below ((Below.refl _ _).alloc (Nat.le_refl _) _)
theorem Bx.new (w : World) (vs : List Value) (T : TypeId) : Bx (w.alloc (.cells vs.toArray T)) w.heap.size vs := by
  refine ⟨fun j v hv => ?_, by simp, fun o => by simp [go_sem]⟩
  rw [cell_of_row _ w.heap.size j vs.toArray T (0, 0) (heap_alloc_new w _)]
  simpa using hv
theorem Bx.set (h : Bx w b vs) (k : Nat) (v : Value) (hk : k < vs.length := by simp) : Bx (w.setCell ⟨b, k, none⟩ v) b (vs.set k v) := by
  refine ⟨fun j u hu => ?_, by simpa [World.setCell] using h.lt, fun o => (World.frozen?_setCell _ _ _ _).trans (h.fz o)⟩
  by_cases hj : k = j
  · subst hj
    rw [List.getElem?_set_self hk] at hu
    cases hu
    exact World.cell?_setCell_same _ _ _ (h.cs k _ (List.getElem?_eq_getElem hk))
  · rw [List.getElem?_set_ne hj] at hu
    exact sO (h.cs j u hu)
theorem Bx.other (h : Bx w b vs) (b' k : Nat) (v : Value) (hb : b ≠ b') : Bx (w.setCell ⟨b', k, none⟩ v) b vs :=
  ⟨fun j u hu => (World.cell?_setCell_other _ _ _ _ (fun e => by injection e with e1 _; exact hb e1.symm)).trans (h.cs j u hu), by simpa [World.setCell] using h.lt, fun o => (World.frozen?_setCell _ _ _ _).trans (h.fz o)⟩
theorem Bx.eqv {us : List Value} (h : Bx w b vs) (e : vs = us) : Bx w b us := e ▸ h
end
end
section
open Go.RowKit
theorem iApply_c (lo b o : Nat) (s : Scr) (g cc : Nat) (ah : Option Addr) (dh : Nat) (w : World) (a : AV) (aa : Option Addr) (ca : Nat) (h : ScrAt lo b o s g cc ah dh w) (ok : ScrOK s) (hlo : lo ≤ w.heap.size) (hac : AcOK a) (ha : Sl intE 1 w aa a.args) (hna : ∀ k ∈ blkOf aa, k ≠ b ∧ k ≠ g ∧ k ∉ blkOf ah) :
    Calls Tryz.prog 37 #[.pointer (some ⟨b, o, none⟩), .agg #[.int .i64 a.kind, .int .i64 a.n, .bool a.priv, .slice aa a.args.length ca, .string a.text]] w fun e w' => e = .returned (.tuple #[]) ∧ ScrR lo b o (actI s a) g ah w w' := by
  obtain ⟨kd, n, pv, xs, tx⟩ := a
  have HS := Lib.hid h
  have HOK := Lib.hid ok
  have HA := Lib.hid ha
  have HNA := Lib.hid hna
  have HAC := Lib.hid hac
  obtain ⟨ln, hln⟩ : ∃ l, xs.length = l := ⟨_, rfl⟩
  have HLN := Lib.hid hln
  simp only at ha
  simp only [hln]
  have hlt := h.lt
  clear h ok ha hna hac hln
  by_cases h1 : kd = 1
  · subst h1
    go_enter Tryz.func37, Tryz.ntmps37
    go_upto_region 1 with fail
    obtain ⟨x0, hx0⟩ : ∃ x, w.alloc (.cells #[.int .i64 1, .int .i64 n, .bool pv, .slice aa ln ca, .string tx] 38) = x := ⟨_, rfl⟩
    have HB0 : Hid (Below w.heap.size w x0) := Lib.hid (by rw [← hx0]; exact (Below.refl _ _).alloc (Nat.le_refl _) _)
    have HBX : Hid (Bx x0 w.heap.size [.int .i64 1, .int .i64 n, .bool pv, .slice aa ln ca, .string tx]) := Lib.hid (by rw [← hx0]; exact Bx.new _ _ _)
    have p_0 := HBX.out.c 0
    have p_1 := HBX.out.c 1
    have p_2 := HBX.out.c 2
    have p_3 := HBX.out.c 3
    have p_4 := HBX.out.c 4
    have p_l := HBX.out.lt
    rw [hx0]
    clear hx0
    have hz0 := HB0.out.size
    have HV := Lib.hid (HS.out.below HB0.out)
    have HU : Hid (Upd b o (o + 12) (fun k => k = g ∨ k ∈ blkOf ah) w x0) := Lib.hid (Upd.refl'.below HB0.out HS.out.lt)
    have HAV := Lib.hid (HA.out.keep HB0.out)
    have k_f := HV.out.fz
    have k_l := HV.out.lt
    have k_0 := HV.out.c0
    have k_2 := HV.out.c2
    go_upto_region 3 with fail
    refine wp_region_B [] [0,1,2,3,4,5,6,7,8] ?_
    repeat (first | refine oW (h := ?_) | refine oL (h := ?_))
    refine oD ?_
    go_upto_if 16 with fail
    go_cut [] (fun wx => ScrR lo b o (wrapS s) g ah x0 wx)
    case first =>
      by_cases hxw : s.x = s.w
      · have hxw' : ((s.x : Int) == (s.w : Int)) = true := by simp [hxw]
        have HX : Hid (ScrAt lo b o { s with x := 0 } g cc ah dh (x0.drew.setCell ⟨b, o + 2, none⟩ (.int .i64 0)) ∧ Upd b o (o + 12) (fun k => k = g ∨ k ∈ blkOf ah) x0 (x0.drew.setCell ⟨b, o + 2, none⟩ (.int .i64 0))) := Lib.hid ⟨HV.out.drew.setv2 0 rfl, Upd.set2 (Upd.refl'.drew) _⟩
        have hz : lo ≤ (x0.drew.setCell ⟨b, o + 2, none⟩ (.int .i64 0)).heap.size := by have := HX.out.2.size; omega
        go_wp2_with fail
        refine (iDown_c lo b o { s with x := 0 } g cc ah dh _ HX.out.1 (HOK.out.xy (x := 0) (y := s.y) (Nat.zero_le _) HOK.out.hy) hz).mono ?_
        rintro e x1 ⟨rfl, hr⟩
        have HR := Lib.hid hr
        clear hr
        go_wp2_with fail
        go_meet
        rw [show wrapS s = downS { s with x := 0 } from if_pos hxw]
        exact ScrR.trans HX.out.1 HX.out.2 (.inl rfl) (fun _ h => .inl h) HR.out
      · have hxw' : ((s.x : Int) == (s.w : Int)) = false := by simp; omega
        go_wp2_with fail
        go_meet
        rw [show wrapS s = s from if_neg hxw]
        exact .mk HV.out.drew Upd.refl'.drew
    case rest =>
      obtain ⟨s1, hs1⟩ : ∃ x, wrapS s = x := ⟨_, rfl⟩
      obtain ⟨g1, cc1, ah1, dh1, ha, hu, hg, hh⟩ := hcut
      have hok := HOK.out.wrap
      rw [hs1] at ha hok
      have HPR : Hid (printS s n = putS s1 n) := Lib.hid (by unfold printS; rw [hs1])
      obtain ⟨w9, hw9⟩ : ∃ x, x = wc := ⟨_, rfl⟩
      subst hw9
      have HA9 := Lib.hid ha
      have HU9 := Lib.hid hu
      have HG9 := Lib.hid hg
      have HH9 := Lib.hid hh
      have hx1 := hok.2
      have hw2' := hok.1.w2
      have hh2' := hok.1.h2
      have hy' := hok.1.hy
      have hcn := hok.1.cn
      have hlk := hok.1.lk
      have hcur : s1.y * s1.w + s1.x < s1.cells.length := by
        have h1 : (s1.y + 1) * s1.w ≤ s1.h * s1.w := mul_le_of hy'
        rw [Nat.succ_mul] at h1
        rw [hcn, Nat.mul_comm s1.w s1.h]
        omega
      have hn240 : s1.cells.length ≤ 240 := by rw [hcn]; exact Nat.mul_le_mul hw2' hh2'
      obtain ⟨p, hp⟩ : ∃ p, s1.y * s1.w = p := ⟨_, rfl⟩
      have hpi : (s1.y : Int) * (s1.w : Int) = (p : Int) := by rw [← hp]; exact (Int.natCast_mul _ _).symm
      rw [hp] at hcur
      obtain ⟨i, hi⟩ : ∃ i, p + s1.x = i := ⟨_, rfl⟩
      have hii : (p : Int) + (s1.x : Int) = (i : Int) := by omega
      rw [hi] at hcur
      have HI : Hid (s1.y * s1.w + s1.x = i) := Lib.hid (by rw [hp, hi])
      obtain ⟨n2, hn2⟩ : ∃ n, s1.cells.length = n := ⟨_, rfl⟩
      have HCUR := Lib.hid hcur
      obtain ⟨e_1, e_2⟩ := ha.cell hcur
      have g_f := ha.gfz
      have g_l := ha.glt.2
      rw [hn2] at hcur hn240
      have hwrp : IntKind.i64.wrap (p : Int) = (p : Int) := IntWalk.i64_in _ ⟨by omega, by omega⟩
      have hwri : IntKind.i64.wrap (i : Int) = (i : Int) := IntWalk.i64_in _ ⟨by omega, by omega⟩
      have hi0 : (0 : Int) ≤ (i : Int) := by omega
      have hin : (i : Int) < (n2 : Int) := by omega
      have h_0 := ha.c0
      have h_2 := ha.c2
      have h_3 := ha.c3
      have h_4 := ha.c4
      have h_10 := ha.c10
      have h_l := ha.lt
      rw [hn2] at h_10
      have hne : ¬ (w.heap.size = b ∨ (w.heap.size = g ∨ w.heap.size ∈ blkOf ah)) := by
        rintro (h | h | h)
        · omega
        · have := HS.out.glt.2; omega
        · have := (HS.out.win.blk _ h).2; omega
      have HBX9 := Lib.hid (HBX.out.ch hu.ch hne)
      clear p_0 p_1 p_2 p_3 p_4 p_l k_0 k_2 k_f k_l
      have p_1 := HBX9.out.c 1
      have p_l := HBX9.out.lt
      clear hs1 hok ha hu hg hh hp hi hcn hn2 hne
      go_upto_region 6 with fail
      refine wp_region_B [26] [0,1,2,3,4,5,6,7,8,9,10,11,12,13,14,15,16,17,18,19,20,21,22,23,24,25,26] ?_
      repeat (first | refine oW (h := ?_) | refine oL (h := ?_))
      refine oO (h := ?_)
      intro K' hK
      go_simp
      refine oN hK (h := ?_)
      clear hK K'
      refine oD ?_
      have HD : Hid (ScrAt lo b o { s1 with cells := s1.cells.set i (n, (s1.look : Int)) } g1 cc1 ah1 dh1 ((w9.setCell ⟨g1, i * 2, none⟩ (.int .i64 n)).setCell ⟨g1, i * 2 + 1, none⟩ (.int .i64 s1.look)).drew ∧ Upd b o (o + 12) (fun k => k = g1 ∨ k ∈ blkOf ah1) w9 ((w9.setCell ⟨g1, i * 2, none⟩ (.int .i64 n)).setCell ⟨g1, i * 2 + 1, none⟩ (.int .i64 s1.look)).drew) := Lib.hid (by
        have h1 := HA9.out.setC HCUR.out (n, (s1.look : Int))
        have hc : Ch (· = g1) w9 ((w9.setCell ⟨g1, i * 2, none⟩ (.int .i64 n)).setCell ⟨g1, i * 2 + 1, none⟩ (.int .i64 s1.look)).drew := ((Ch.set1' _ g1 (i * 2) _).trans (Ch.set1' _ g1 (i * 2 + 1) _) (fun _ h => .inl h)).drew
        exact ⟨h1.drew, Upd.ofCh hc HA9.out.lt (fun e => HA9.out.gb e.symm) (fun _ hi => .inl (.inl hi))⟩)
      obtain ⟨w10, hw10⟩ : ∃ x, ((w9.setCell ⟨g1, i * 2, none⟩ (.int .i64 n)).setCell ⟨g1, i * 2 + 1, none⟩ (.int .i64 s1.look)).drew = x := ⟨_, rfl⟩
      rw [hw10] at HD ⊢
      clear hw10 e_1 e_2 g_f g_l h_0 h_2 h_3 h_4 h_10 h_l
      have z_2 := HD.out.1.c2
      have z_f := HD.out.1.fz
      have z_l := HD.out.1.lt
      go_wp2_with fail
      first | refine bodyPost_end (v := .tuple #[]) (by simp [results, Tryz.results37]) rfl ?_ | refine bodyPost_ret (v := .tuple #[]) (by simp [results, Tryz.results37]) rfl ?_
      refine ⟨rfl, ?_⟩
      unfold actI
      rw [if_neg (fun e => absurd e.1 (by show ¬ (1 : Int) = 4; decide))]
      unfold actS
      rw [if_pos rfl]
      rw [HPR.out]
      rw [show putS s1 n = { s1 with cells := s1.cells.set i (n, (s1.look : Int)), x := s1.x + 1 } by unfold putS; rw [HI.out]]
      have h2 : ScrR lo b o { s1 with cells := s1.cells.set i (n, (s1.look : Int)), x := s1.x + 1 } g1 ah1 w9 (w10.setCell ⟨b, o + 2, none⟩ (.int .i64 ((s1.x : Int) + 1))) := .mk (HD.out.1.setv2 (s1.x + 1) (by omega)) (HD.out.2.set2 _)
      exact ScrR.trans HV.out HU.out (.inl rfl) (fun _ h => .inl h) (ScrR.trans HA9.out HU9.out HG9.out HH9.out h2)
  by_cases h2 : kd = 2
  · subst h2
    go_enter Tryz.func37, Tryz.ntmps37
    go_upto_region 1 with fail
    obtain ⟨x0, hx0⟩ : ∃ x, w.alloc (.cells #[.int .i64 2, .int .i64 n, .bool pv, .slice aa ln ca, .string tx] 38) = x := ⟨_, rfl⟩
    have HB0 : Hid (Below w.heap.size w x0) := Lib.hid (by rw [← hx0]; exact (Below.refl _ _).alloc (Nat.le_refl _) _)
    have HBX : Hid (Bx x0 w.heap.size [.int .i64 2, .int .i64 n, .bool pv, .slice aa ln ca, .string tx]) := Lib.hid (by rw [← hx0]; exact Bx.new _ _ _)
    have p_0 := HBX.out.c 0
    have p_1 := HBX.out.c 1
    have p_2 := HBX.out.c 2
    have p_3 := HBX.out.c 3
    have p_4 := HBX.out.c 4
    have p_l := HBX.out.lt
    rw [hx0]
    clear hx0
    have hz0 := HB0.out.size
    have HV := Lib.hid (HS.out.below HB0.out)
    have HU : Hid (Upd b o (o + 12) (fun k => k = g ∨ k ∈ blkOf ah) w x0) := Lib.hid (Upd.refl'.below HB0.out HS.out.lt)
    have HAV := Lib.hid (HA.out.keep HB0.out)
    have k_f := HV.out.fz
    have k_l := HV.out.lt
    go_wp2_with fail
    refine (iControl_c lo b o s g cc ah dh _ n HV.out HOK.out (by omega)).mono ?_
    rintro e x1 ⟨rfl, hr⟩
    have HR := Lib.hid hr
    clear hr
    go_wp2_with fail
    first | refine bodyPost_end (v := .tuple #[]) (by simp [results, Tryz.results37]) rfl ?_ | refine bodyPost_ret (v := .tuple #[]) (by simp [results, Tryz.results37]) rfl ?_
    refine ⟨rfl, ?_⟩
    unfold actI
    rw [if_neg (fun e => absurd e.1 (by show ¬ (2 : Int) = 4; decide))]
    unfold actS
    rw [if_neg (by show ¬ (2 : Int) = 1; decide), if_pos rfl]
    exact ScrR.trans HV.out HU.out (.inl rfl) (fun _ h => .inl h) HR.out
  by_cases h3 : kd = 3
  · subst h3
    go_enter Tryz.func37, Tryz.ntmps37
    go_upto_region 1 with fail
    obtain ⟨x0, hx0⟩ : ∃ x, w.alloc (.cells #[.int .i64 3, .int .i64 n, .bool pv, .slice aa ln ca, .string tx] 38) = x := ⟨_, rfl⟩
    have HB0 : Hid (Below w.heap.size w x0) := Lib.hid (by rw [← hx0]; exact (Below.refl _ _).alloc (Nat.le_refl _) _)
    have HBX : Hid (Bx x0 w.heap.size [.int .i64 3, .int .i64 n, .bool pv, .slice aa ln ca, .string tx]) := Lib.hid (by rw [← hx0]; exact Bx.new _ _ _)
    have p_0 := HBX.out.c 0
    have p_1 := HBX.out.c 1
    have p_2 := HBX.out.c 2
    have p_3 := HBX.out.c 3
    have p_4 := HBX.out.c 4
    have p_l := HBX.out.lt
    rw [hx0]
    clear hx0
    have hz0 := HB0.out.size
    have HV := Lib.hid (HS.out.below HB0.out)
    have HU : Hid (Upd b o (o + 12) (fun k => k = g ∨ k ∈ blkOf ah) w x0) := Lib.hid (Upd.refl'.below HB0.out HS.out.lt)
    have HAV := Lib.hid (HA.out.keep HB0.out)
    have k_f := HV.out.fz
    have k_l := HV.out.lt
    go_wp2_with fail
    refine (iEscape_c lo b o s g cc ah dh _ n HV.out HOK.out (by omega)).mono ?_
    rintro e x1 ⟨rfl, hr⟩
    have HR := Lib.hid hr
    clear hr
    go_wp2_with fail
    first | refine bodyPost_end (v := .tuple #[]) (by simp [results, Tryz.results37]) rfl ?_ | refine bodyPost_ret (v := .tuple #[]) (by simp [results, Tryz.results37]) rfl ?_
    refine ⟨rfl, ?_⟩
    unfold actI
    rw [if_neg (fun e => absurd e.1 (by show ¬ (3 : Int) = 4; decide))]
    unfold actS
    rw [if_neg (by show ¬ (3 : Int) = 1; decide), if_neg (by show ¬ (3 : Int) = 2; decide), if_pos rfl]
    exact ScrR.trans HV.out HU.out (.inl rfl) (fun _ h => .inl h) HR.out
  by_cases h5 : kd = 5
  · subst h5
    go_enter Tryz.func37, Tryz.ntmps37
    go_upto_region 1 with fail
    obtain ⟨x0, hx0⟩ : ∃ x, w.alloc (.cells #[.int .i64 5, .int .i64 n, .bool pv, .slice aa ln ca, .string tx] 38) = x := ⟨_, rfl⟩
    have HB0 : Hid (Below w.heap.size w x0) := Lib.hid (by rw [← hx0]; exact (Below.refl _ _).alloc (Nat.le_refl _) _)
    have HBX : Hid (Bx x0 w.heap.size [.int .i64 5, .int .i64 n, .bool pv, .slice aa ln ca, .string tx]) := Lib.hid (by rw [← hx0]; exact Bx.new _ _ _)
    have p_0 := HBX.out.c 0
    have p_1 := HBX.out.c 1
    have p_2 := HBX.out.c 2
    have p_3 := HBX.out.c 3
    have p_4 := HBX.out.c 4
    have p_l := HBX.out.lt
    rw [hx0]
    clear hx0
    have hz0 := HB0.out.size
    have HV := Lib.hid (HS.out.below HB0.out)
    have HU : Hid (Upd b o (o + 12) (fun k => k = g ∨ k ∈ blkOf ah) w x0) := Lib.hid (Upd.refl'.below HB0.out HS.out.lt)
    have HAV := Lib.hid (HA.out.keep HB0.out)
    have k_f := HV.out.fz
    have k_l := HV.out.lt
    have k_9 := HV.out.c9
    go_wp2_with fail
    first | refine bodyPost_end (v := .tuple #[]) (by simp [results, Tryz.results37]) rfl ?_ | refine bodyPost_ret (v := .tuple #[]) (by simp [results, Tryz.results37]) rfl ?_
    refine ⟨rfl, ?_⟩
    unfold actI
    rw [if_neg (fun e => absurd e.1 (by show ¬ (5 : Int) = 4; decide))]
    unfold actS
    rw [if_neg (by show ¬ (5 : Int) = 1; decide), if_neg (by show ¬ (5 : Int) = 2; decide), if_neg (by show ¬ (5 : Int) = 3; decide), if_neg (by show ¬ (5 : Int) = 4; decide), if_pos rfl]
    exact .mk (HV.out.set9 tx) (HU.out.set9 _)
  by_cases h4 : kd = 4
  · subst h4
    cases pv
    · have HCS : Hid (∀ W, ScrAt lo b o s g cc ah dh W → lo ≤ W.heap.size → Sl intE 1 W aa xs → Calls Tryz.prog 76 #[.pointer (some ⟨b, o, none⟩), .agg #[.int .i64 4, .int .i64 n, .bool false, .slice aa ln ca, .string tx]] W fun e w' => e = .returned (.tuple #[]) ∧ ScrR lo b o (csiI s n xs) g ah W w') := Lib.hid (fun W h1 h2 h3 => by
        rw [← HLN.out]
        exact icsi_c lo b o s g cc ah dh W 4 xs aa ca tx n h1 HOK.out h2 h3 HNA.out (AcOK.xs4 HAC.out).1 (AcOK.xs4 HAC.out).2)
      go_enter Tryz.func37, Tryz.ntmps37
      go_upto_region 1 with fail
      obtain ⟨x0, hx0⟩ : ∃ x, w.alloc (.cells #[.int .i64 4, .int .i64 n, .bool false, .slice aa ln ca, .string tx] 38) = x := ⟨_, rfl⟩
      have HB0 : Hid (Below w.heap.size w x0) := Lib.hid (by rw [← hx0]; exact (Below.refl _ _).alloc (Nat.le_refl _) _)
      have HBX : Hid (Bx x0 w.heap.size [.int .i64 4, .int .i64 n, .bool false, .slice aa ln ca, .string tx]) := Lib.hid (by rw [← hx0]; exact Bx.new _ _ _)
      have p_0 := HBX.out.c 0
      have p_1 := HBX.out.c 1
      have p_2 := HBX.out.c 2
      have p_3 := HBX.out.c 3
      have p_4 := HBX.out.c 4
      have p_l := HBX.out.lt
      rw [hx0]
      clear hx0
      have hz0 := HB0.out.size
      have HV := Lib.hid (HS.out.below HB0.out)
      have HU : Hid (Upd b o (o + 12) (fun k => k = g ∨ k ∈ blkOf ah) w x0) := Lib.hid (Upd.refl'.below HB0.out HS.out.lt)
      have HAV := Lib.hid (HA.out.keep HB0.out)
      have k_f := HV.out.fz
      have k_l := HV.out.lt
      go_wp2_with fail
      refine (HCS.out _ HV.out (by omega) HAV.out).mono ?_
      rintro e x1 ⟨rfl, hr⟩
      have HR := Lib.hid hr
      clear hr
      go_wp2_with fail
      first | refine bodyPost_end (v := .tuple #[]) (by simp [results, Tryz.results37]) rfl ?_ | refine bodyPost_ret (v := .tuple #[]) (by simp [results, Tryz.results37]) rfl ?_
      refine ⟨rfl, ?_⟩
      unfold actI
      rw [if_pos ⟨rfl, rfl⟩]
      exact ScrR.trans HV.out HU.out (.inl rfl) (fun _ h => .inl h) HR.out
    · go_enter Tryz.func37, Tryz.ntmps37
      go_upto_region 1 with fail
      obtain ⟨x0, hx0⟩ : ∃ x, w.alloc (.cells #[.int .i64 4, .int .i64 n, .bool true, .slice aa ln ca, .string tx] 38) = x := ⟨_, rfl⟩
      have HB0 : Hid (Below w.heap.size w x0) := Lib.hid (by rw [← hx0]; exact (Below.refl _ _).alloc (Nat.le_refl _) _)
      have HBX : Hid (Bx x0 w.heap.size [.int .i64 4, .int .i64 n, .bool true, .slice aa ln ca, .string tx]) := Lib.hid (by rw [← hx0]; exact Bx.new _ _ _)
      have p_0 := HBX.out.c 0
      have p_1 := HBX.out.c 1
      have p_2 := HBX.out.c 2
      have p_3 := HBX.out.c 3
      have p_4 := HBX.out.c 4
      have p_l := HBX.out.lt
      rw [hx0]
      clear hx0
      have hz0 := HB0.out.size
      have HV := Lib.hid (HS.out.below HB0.out)
      have HU : Hid (Upd b o (o + 12) (fun k => k = g ∨ k ∈ blkOf ah) w x0) := Lib.hid (Upd.refl'.below HB0.out HS.out.lt)
      have HAV := Lib.hid (HA.out.keep HB0.out)
      have k_f := HV.out.fz
      have k_l := HV.out.lt
      go_wp2_with fail
      first | refine bodyPost_end (v := .tuple #[]) (by simp [results, Tryz.results37]) rfl ?_ | refine bodyPost_ret (v := .tuple #[]) (by simp [results, Tryz.results37]) rfl ?_
      refine ⟨rfl, ?_⟩
      unfold actI
      rw [if_neg (fun e => absurd e.2 (by show ¬ true = false; decide))]
      unfold actS
      rw [if_neg (by show ¬ (4 : Int) = 1; decide), if_neg (by show ¬ (4 : Int) = 2; decide), if_neg (by show ¬ (4 : Int) = 3; decide), if_pos rfl, if_pos rfl]
      exact .mk HV.out HU.out
  rcases HAC.out with ⟨hk, _⟩ | ⟨_, _, ⟨hk, _⟩ | ⟨_, ⟨hk, _⟩ | ⟨hk, _⟩ | ⟨hk, _⟩⟩⟩
  · exact absurd hk h4
  · exact absurd hk h5
  · exact absurd hk h1
  · exact absurd hk h2
  · exact absurd hk h3
end
section
open Go.RowKit
theorem FreshIn.setC {lo hi n c g : Nat} {xs : List Cl} {w : World} (h : FreshIn celE 87 2 lo hi (.slice (some ⟨g, 0, none⟩) n c) xs w) {i : Nat} (hi' : i < xs.length) (k : Cl) : FreshIn celE 87 2 lo hi (.slice (some ⟨g, 0, none⟩) n c) (xs.set i k) ((w.setCell ⟨g, i * 2, none⟩ (.int .i64 k.1)).setCell ⟨g, i * 2 + 1, none⟩ (.int .i64 k.2)) := by
  obtain ⟨⟨a', cap', hv, h1, h2⟩, h3⟩ := h
  cases hv
  obtain ⟨hol, ho⟩ := h2
  rcases ho with ⟨hv, _⟩ | ⟨g', cap, cur, hv, hbg, hg, hnc, hcm, hcs, htake⟩
  · cases hv
  · cases hv
    have e1 := heap_setCell_same w g (i * 2) cur _ (.int .i64 k.1) hg
    have e2 := heap_setCell_same (w.setCell ⟨g, i * 2, none⟩ (.int .i64 k.1)) g (i * 2 + 1) _ _ (.int .i64 k.2) e1
    have hn : xs.length * 2 ≤ c * 2 := Nat.mul_le_mul_right _ hnc
    refine ⟨⟨_, _, by rw [List.length_set], by rw [List.length_set]; exact h1, by rw [flat_length celE 2 (fun _ => rfl)], .inr ⟨g, c, _, rfl, hbg, e2, by rw [List.length_set]; exact hnc, hcm, by simpa using hcs, ?_⟩⟩, fun k' hk => by have := h3 k' hk; exact this⟩
    rw [List.length_set, Array.toList_setIfInBounds, Array.toList_setIfInBounds, ← flat_set xs i hi' k, ← htake, List.take_set, List.take_set]
end
section
open Go.RowKit
theorem isSize_c (a b : Int) (w : World) : Calls Tryz.prog 25 #[.int .i64 a, .int .i64 b] w fun e w' => e = .returned (.bool (inB a 2 24 && inB b 2 10)) ∧ w = w' := by
  obtain ⟨u, hu⟩ : ∃ u, inB a 2 24 = u := ⟨_, rfl⟩
  obtain ⟨v, hv⟩ : ∃ v, inB b 2 10 = v := ⟨_, rfl⟩
  have HU := Lib.hid hu
  have HV := Lib.hid hv
  rw [hu, hv]
  clear hu hv
  cases u <;> cases v
  all_goals
    go_enter Tryz.func25, Tryz.ntmps25
    go_wp2_with (go_at_call 31; refine (within_c _ _ _ _).mono ?_; (first | rw [HU.out] | rw [HV.out]); rintro e w' ⟨rfl, rfl⟩)
    all_goals
      go_ret
      exact ⟨rfl, rfl⟩
def rnB (n : Int) : Bool := inB n 32 1114111 && !(n == 127) && !inB n 55296 57343
theorem isRune_c (n : Int) (w : World) : Calls Tryz.prog 57 #[.int .i64 n] w fun e w' => e = .returned (.bool (rnB n)) ∧ w = w' := by
  obtain ⟨u, hu⟩ : ∃ u, inB n 32 1114111 = u := ⟨_, rfl⟩
  obtain ⟨v, hv⟩ : ∃ v, inB n 55296 57343 = v := ⟨_, rfl⟩
  have HU := Lib.hid hu
  have HV := Lib.hid hv
  have hB : rnB n = (u && !(n == 127) && !v) := by unfold rnB; rw [hu, hv]
  rw [hB]
  clear hB hu hv
  cases h127 : (n == 127) <;> cases u <;> cases v
  all_goals
    have q127 : (n != 127) = !(n == 127) := rfl
    rw [h127] at q127
    go_enter Tryz.func57, Tryz.ntmps57
    go_wp2_with (go_at_call 31; refine (within_c _ _ _ _).mono ?_; (first | rw [HU.out] | rw [HV.out]); rintro e w' ⟨rfl, rfl⟩)
    all_goals
      go_ret
      exact ⟨rfl, rfl⟩
theorem celB_rn (c : Cl) : celB c = (rnB c.1 && inB c.2 0 127) := by
  unfold celB rnB inB
  rw [Bool.eq_iff_iff]
  simp only [Bool.and_eq_true, decide_eq_true_eq, Bool.not_eq_true', Bool.and_eq_false_iff, decide_eq_false_iff_not, beq_eq_false_iff_ne, ne_eq]
  omega
theorem isScreen2_c (c : Cl) (w : World) : Calls Tryz.prog 56 #[.agg #[.int .i64 c.1, .int .i64 c.2]] w fun e w' => e = .returned (.bool (!celB c)) ∧ Below w.heap.size w w' := by
  obtain ⟨n, k⟩ := c
  obtain ⟨u, hu⟩ : ∃ u, rnB n = u := ⟨_, rfl⟩
  obtain ⟨v, hv⟩ : ∃ v, inB k 0 127 = v := ⟨_, rfl⟩
  have HU := Lib.hid hu
  have HV := Lib.hid hv
  rw [celB_rn]
  simp only
  rw [hu, hv]
  clear hu hv
  cases u <;> cases v
  all_goals
    go_enter Tryz.func56, Tryz.ntmps56
    go_wp2_with (first | (go_at_call 57; refine (isRune_c _ _).mono ?_; rw [HU.out]; rintro e w' ⟨rfl, rfl⟩) | (go_at_call 31; refine (within_c _ _ _ _).mono ?_; rw [HV.out]; rintro e w' ⟨rfl, rfl⟩))
    all_goals
      go_ret
      exact ⟨rfl, (Below.refl _ _).alloc (Nat.le_refl _) _⟩
end
section
open Go.RowKit
theorem screenOK_no1 (s : ScrI) (ac : Option Addr) (cc : Nat) (ah : Option Addr) (dh : Nat) (w : World) (hcl : s.cells.length ≤ 1048576) (hhl : s.hist.length ≤ 1048576)  (hk : (inB s.w 2 24 && inB s.h 2 10) = false) :
    Calls Tryz.prog 27 #[.agg #[.int .i64 s.w, .int .i64 s.h, .int .i64 s.x, .int .i64 s.y, .int .i64 s.look, .int .i64 s.top, .int .i64 s.bot, .int .i64 s.sx, .int .i64 s.sy, .string s.title, .slice ac s.cells.length cc, .slice ah s.hist.length dh]] w fun e w' => e = .returned (.bool false) ∧ Below w.heap.size w w' := by
  have H1 := Lib.hid hk
  clear hk 
  obtain ⟨nc, hnc⟩ : ∃ n, s.cells.length = n := ⟨_, rfl⟩
  obtain ⟨nh, hnh⟩ : ∃ n, s.hist.length = n := ⟨_, rfl⟩
  have HNC := Lib.hid hnc
  have HNH := Lib.hid hnh
  rw [hnc, hnh]
  rw [hnc] at hcl
  rw [hnh] at hhl
  clear hnc hnh
  go_enter Tryz.func27, Tryz.ntmps27
  simp only [List.append_eq, List.cons_append, List.nil_append]
  go_wp2_with (go_at_call 28; refine (l04Size_c _ _ _).mono ?_; rw [H1.out]; rintro e w' ⟨rfl, rfl⟩)
  go_ret
  exact ⟨rfl, (Below.refl _ _).alloc (Nat.le_refl _) _⟩
theorem screenOK_no2 (s : ScrI) (ac : Option Addr) (cc : Nat) (ah : Option Addr) (dh : Nat) (w : World) (hcl : s.cells.length ≤ 1048576) (hhl : s.hist.length ≤ 1048576) (h1 : (inB s.w 2 24 && inB s.h 2 10) = true) (hk : inB s.x 0 s.w = false) :
    Calls Tryz.prog 27 #[.agg #[.int .i64 s.w, .int .i64 s.h, .int .i64 s.x, .int .i64 s.y, .int .i64 s.look, .int .i64 s.top, .int .i64 s.bot, .int .i64 s.sx, .int .i64 s.sy, .string s.title, .slice ac s.cells.length cc, .slice ah s.hist.length dh]] w fun e w' => e = .returned (.bool false) ∧ Below w.heap.size w w' := by
  have H1 := Lib.hid h1
  have H2 := Lib.hid hk
  clear hk h1
  have hw2 : 2 ≤ s.w ∧ s.w ≤ 24 := by have := H1.out; simp only [inB, Bool.and_eq_true, decide_eq_true_eq] at this; omega
  have hh2 : 2 ≤ s.h ∧ s.h ≤ 10 := by have := H1.out; simp only [inB, Bool.and_eq_true, decide_eq_true_eq] at this; omega
  obtain ⟨hw2a, hw2b⟩ := hw2
  obtain ⟨hh2a, hh2b⟩ := hh2
  obtain ⟨nc, hnc⟩ : ∃ n, s.cells.length = n := ⟨_, rfl⟩
  obtain ⟨nh, hnh⟩ : ∃ n, s.hist.length = n := ⟨_, rfl⟩
  have HNC := Lib.hid hnc
  have HNH := Lib.hid hnh
  rw [hnc, hnh]
  rw [hnc] at hcl
  rw [hnh] at hhl
  clear hnc hnh
  go_enter Tryz.func27, Tryz.ntmps27
  simp only [List.append_eq, List.cons_append, List.nil_append]
  go_wp2_with (first | (go_at_call 28; refine (l04Size_c _ _ _).mono ?_; rw [H1.out]; rintro e w' ⟨rfl, rfl⟩) | (go_at_call 60; refine (l01In_c _ _ _ _).mono ?_; (first | rw [H2.out]); rintro e w' ⟨rfl, rfl⟩))
  go_ret
  exact ⟨rfl, (Below.refl _ _).alloc (Nat.le_refl _) _⟩
theorem screenOK_no3 (s : ScrI) (ac : Option Addr) (cc : Nat) (ah : Option Addr) (dh : Nat) (w : World) (hcl : s.cells.length ≤ 1048576) (hhl : s.hist.length ≤ 1048576) (h1 : (inB s.w 2 24 && inB s.h 2 10) = true) (h2 : inB s.x 0 s.w = true) (hk : inB s.y 0 (s.h - 1) = false) :
    Calls Tryz.prog 27 #[.agg #[.int .i64 s.w, .int .i64 s.h, .int .i64 s.x, .int .i64 s.y, .int .i64 s.look, .int .i64 s.top, .int .i64 s.bot, .int .i64 s.sx, .int .i64 s.sy, .string s.title, .slice ac s.cells.length cc, .slice ah s.hist.length dh]] w fun e w' => e = .returned (.bool false) ∧ Below w.heap.size w w' := by
  have H1 := Lib.hid h1
  have H2 := Lib.hid h2
  have H3 := Lib.hid hk
  clear hk h1 h2
  have hw2 : 2 ≤ s.w ∧ s.w ≤ 24 := by have := H1.out; simp only [inB, Bool.and_eq_true, decide_eq_true_eq] at this; omega
  have hh2 : 2 ≤ s.h ∧ s.h ≤ 10 := by have := H1.out; simp only [inB, Bool.and_eq_true, decide_eq_true_eq] at this; omega
  obtain ⟨hw2a, hw2b⟩ := hw2
  obtain ⟨hh2a, hh2b⟩ := hh2
  obtain ⟨nc, hnc⟩ : ∃ n, s.cells.length = n := ⟨_, rfl⟩
  obtain ⟨nh, hnh⟩ : ∃ n, s.hist.length = n := ⟨_, rfl⟩
  have HNC := Lib.hid hnc
  have HNH := Lib.hid hnh
  rw [hnc, hnh]
  rw [hnc] at hcl
  rw [hnh] at hhl
  clear hnc hnh
  go_enter Tryz.func27, Tryz.ntmps27
  simp only [List.append_eq, List.cons_append, List.nil_append]
  go_wp2_with (first | (go_at_call 28; refine (l04Size_c _ _ _).mono ?_; rw [H1.out]; rintro e w' ⟨rfl, rfl⟩) | (go_at_call 60; refine (l01In_c _ _ _ _).mono ?_; (first | rw [H2.out] | rw [H3.out]); rintro e w' ⟨rfl, rfl⟩))
  go_ret
  exact ⟨rfl, (Below.refl _ _).alloc (Nat.le_refl _) _⟩
theorem screenOK_no4 (s : ScrI) (ac : Option Addr) (cc : Nat) (ah : Option Addr) (dh : Nat) (w : World) (hcl : s.cells.length ≤ 1048576) (hhl : s.hist.length ≤ 1048576) (h1 : (inB s.w 2 24 && inB s.h 2 10) = true) (h2 : inB s.x 0 s.w = true) (h3 : inB s.y 0 (s.h - 1) = true) (hk : inB s.look 0 127 = false) :
    Calls Tryz.prog 27 #[.agg #[.int .i64 s.w, .int .i64 s.h, .int .i64 s.x, .int .i64 s.y, .int .i64 s.look, .int .i64 s.top, .int .i64 s.bot, .int .i64 s.sx, .int .i64 s.sy, .string s.title, .slice ac s.cells.length cc, .slice ah s.hist.length dh]] w fun e w' => e = .returned (.bool false) ∧ Below w.heap.size w w' := by
  have H1 := Lib.hid h1
  have H2 := Lib.hid h2
  have H3 := Lib.hid h3
  have H4 := Lib.hid hk
  clear hk h1 h2 h3
  have hw2 : 2 ≤ s.w ∧ s.w ≤ 24 := by have := H1.out; simp only [inB, Bool.and_eq_true, decide_eq_true_eq] at this; omega
  have hh2 : 2 ≤ s.h ∧ s.h ≤ 10 := by have := H1.out; simp only [inB, Bool.and_eq_true, decide_eq_true_eq] at this; omega
  obtain ⟨hw2a, hw2b⟩ := hw2
  obtain ⟨hh2a, hh2b⟩ := hh2
  obtain ⟨nc, hnc⟩ : ∃ n, s.cells.length = n := ⟨_, rfl⟩
  obtain ⟨nh, hnh⟩ : ∃ n, s.hist.length = n := ⟨_, rfl⟩
  have HNC := Lib.hid hnc
  have HNH := Lib.hid hnh
  rw [hnc, hnh]
  rw [hnc] at hcl
  rw [hnh] at hhl
  clear hnc hnh
  go_enter Tryz.func27, Tryz.ntmps27
  simp only [List.append_eq, List.cons_append, List.nil_append]
  go_wp2_with (first | (go_at_call 28; refine (l04Size_c _ _ _).mono ?_; rw [H1.out]; rintro e w' ⟨rfl, rfl⟩) | (go_at_call 60; refine (l01In_c _ _ _ _).mono ?_; (first | rw [H2.out] | rw [H3.out] | rw [H4.out]); rintro e w' ⟨rfl, rfl⟩))
  go_ret
  exact ⟨rfl, (Below.refl _ _).alloc (Nat.le_refl _) _⟩
theorem screenOK_no5 (s : ScrI) (ac : Option Addr) (cc : Nat) (ah : Option Addr) (dh : Nat) (w : World) (hcl : s.cells.length ≤ 1048576) (hhl : s.hist.length ≤ 1048576) (h1 : (inB s.w 2 24 && inB s.h 2 10) = true) (h2 : inB s.x 0 s.w = true) (h3 : inB s.y 0 (s.h - 1) = true) (h4 : inB s.look 0 127 = true) (hk : inB s.top 0 (s.h - 2) = false) :
    Calls Tryz.prog 27 #[.agg #[.int .i64 s.w, .int .i64 s.h, .int .i64 s.x, .int .i64 s.y, .int .i64 s.look, .int .i64 s.top, .int .i64 s.bot, .int .i64 s.sx, .int .i64 s.sy, .string s.title, .slice ac s.cells.length cc, .slice ah s.hist.length dh]] w fun e w' => e = .returned (.bool false) ∧ Below w.heap.size w w' := by
  have H1 := Lib.hid h1
  have H2 := Lib.hid h2
  have H3 := Lib.hid h3
  have H4 := Lib.hid h4
  have H5 := Lib.hid hk
  clear hk h1 h2 h3 h4
  have hw2 : 2 ≤ s.w ∧ s.w ≤ 24 := by have := H1.out; simp only [inB, Bool.and_eq_true, decide_eq_true_eq] at this; omega
  have hh2 : 2 ≤ s.h ∧ s.h ≤ 10 := by have := H1.out; simp only [inB, Bool.and_eq_true, decide_eq_true_eq] at this; omega
  obtain ⟨hw2a, hw2b⟩ := hw2
  obtain ⟨hh2a, hh2b⟩ := hh2
  obtain ⟨nc, hnc⟩ : ∃ n, s.cells.length = n := ⟨_, rfl⟩
  obtain ⟨nh, hnh⟩ : ∃ n, s.hist.length = n := ⟨_, rfl⟩
  have HNC := Lib.hid hnc
  have HNH := Lib.hid hnh
  rw [hnc, hnh]
  rw [hnc] at hcl
  rw [hnh] at hhl
  clear hnc hnh
  go_enter Tryz.func27, Tryz.ntmps27
  simp only [List.append_eq, List.cons_append, List.nil_append]
  go_wp2_with (first | (go_at_call 28; refine (l04Size_c _ _ _).mono ?_; rw [H1.out]; rintro e w' ⟨rfl, rfl⟩) | (go_at_call 60; refine (l01In_c _ _ _ _).mono ?_; (first | rw [H2.out] | rw [H3.out] | rw [H4.out] | rw [H5.out]); rintro e w' ⟨rfl, rfl⟩))
  go_ret
  exact ⟨rfl, (Below.refl _ _).alloc (Nat.le_refl _) _⟩
theorem screenOK_no6 (s : ScrI) (ac : Option Addr) (cc : Nat) (ah : Option Addr) (dh : Nat) (w : World) (hcl : s.cells.length ≤ 1048576) (hhl : s.hist.length ≤ 1048576) (h1 : (inB s.w 2 24 && inB s.h 2 10) = true) (h2 : inB s.x 0 s.w = true) (h3 : inB s.y 0 (s.h - 1) = true) (h4 : inB s.look 0 127 = true) (h5 : inB s.top 0 (s.h - 2) = true) (hk : inB s.bot (s.top + 1) (s.h - 1) = false) :
    Calls Tryz.prog 27 #[.agg #[.int .i64 s.w, .int .i64 s.h, .int .i64 s.x, .int .i64 s.y, .int .i64 s.look, .int .i64 s.top, .int .i64 s.bot, .int .i64 s.sx, .int .i64 s.sy, .string s.title, .slice ac s.cells.length cc, .slice ah s.hist.length dh]] w fun e w' => e = .returned (.bool false) ∧ Below w.heap.size w w' := by
  have H1 := Lib.hid h1
  have H2 := Lib.hid h2
  have H3 := Lib.hid h3
  have H4 := Lib.hid h4
  have H5 := Lib.hid h5
  have H6 := Lib.hid hk
  clear hk h1 h2 h3 h4 h5
  have hw2 : 2 ≤ s.w ∧ s.w ≤ 24 := by have := H1.out; simp only [inB, Bool.and_eq_true, decide_eq_true_eq] at this; omega
  have hh2 : 2 ≤ s.h ∧ s.h ≤ 10 := by have := H1.out; simp only [inB, Bool.and_eq_true, decide_eq_true_eq] at this; omega
  obtain ⟨hw2a, hw2b⟩ := hw2
  obtain ⟨hh2a, hh2b⟩ := hh2
  have ht2 : 0 ≤ s.top ∧ s.top ≤ s.h - 2 := by have := H5.out; simp only [inB, Bool.and_eq_true, decide_eq_true_eq] at this; omega
  obtain ⟨ht2a, ht2b⟩ := ht2
  obtain ⟨nc, hnc⟩ : ∃ n, s.cells.length = n := ⟨_, rfl⟩
  obtain ⟨nh, hnh⟩ : ∃ n, s.hist.length = n := ⟨_, rfl⟩
  have HNC := Lib.hid hnc
  have HNH := Lib.hid hnh
  rw [hnc, hnh]
  rw [hnc] at hcl
  rw [hnh] at hhl
  clear hnc hnh
  go_enter Tryz.func27, Tryz.ntmps27
  simp only [List.append_eq, List.cons_append, List.nil_append]
  go_wp2_with (first | (go_at_call 28; refine (l04Size_c _ _ _).mono ?_; rw [H1.out]; rintro e w' ⟨rfl, rfl⟩) | (go_at_call 60; refine (l01In_c _ _ _ _).mono ?_; (first | rw [H2.out] | rw [H3.out] | rw [H4.out] | rw [H5.out] | rw [H6.out]); rintro e w' ⟨rfl, rfl⟩))
  go_ret
  exact ⟨rfl, (Below.refl _ _).alloc (Nat.le_refl _) _⟩
theorem screenOK_no7 (s : ScrI) (ac : Option Addr) (cc : Nat) (ah : Option Addr) (dh : Nat) (w : World) (hcl : s.cells.length ≤ 1048576) (hhl : s.hist.length ≤ 1048576) (h1 : (inB s.w 2 24 && inB s.h 2 10) = true) (h2 : inB s.x 0 s.w = true) (h3 : inB s.y 0 (s.h - 1) = true) (h4 : inB s.look 0 127 = true) (h5 : inB s.top 0 (s.h - 2) = true) (h6 : inB s.bot (s.top + 1) (s.h - 1) = true) (hk : inB s.sx 0 s.w = false) :
    Calls Tryz.prog 27 #[.agg #[.int .i64 s.w, .int .i64 s.h, .int .i64 s.x, .int .i64 s.y, .int .i64 s.look, .int .i64 s.top, .int .i64 s.bot, .int .i64 s.sx, .int .i64 s.sy, .string s.title, .slice ac s.cells.length cc, .slice ah s.hist.length dh]] w fun e w' => e = .returned (.bool false) ∧ Below w.heap.size w w' := by
  have H1 := Lib.hid h1
  have H2 := Lib.hid h2
  have H3 := Lib.hid h3
  have H4 := Lib.hid h4
  have H5 := Lib.hid h5
  have H6 := Lib.hid h6
  have H7 := Lib.hid hk
  clear hk h1 h2 h3 h4 h5 h6
  have hw2 : 2 ≤ s.w ∧ s.w ≤ 24 := by have := H1.out; simp only [inB, Bool.and_eq_true, decide_eq_true_eq] at this; omega
  have hh2 : 2 ≤ s.h ∧ s.h ≤ 10 := by have := H1.out; simp only [inB, Bool.and_eq_true, decide_eq_true_eq] at this; omega
  obtain ⟨hw2a, hw2b⟩ := hw2
  obtain ⟨hh2a, hh2b⟩ := hh2
  have ht2 : 0 ≤ s.top ∧ s.top ≤ s.h - 2 := by have := H5.out; simp only [inB, Bool.and_eq_true, decide_eq_true_eq] at this; omega
  obtain ⟨ht2a, ht2b⟩ := ht2
  obtain ⟨nc, hnc⟩ : ∃ n, s.cells.length = n := ⟨_, rfl⟩
  obtain ⟨nh, hnh⟩ : ∃ n, s.hist.length = n := ⟨_, rfl⟩
  have HNC := Lib.hid hnc
  have HNH := Lib.hid hnh
  rw [hnc, hnh]
  rw [hnc] at hcl
  rw [hnh] at hhl
  clear hnc hnh
  go_enter Tryz.func27, Tryz.ntmps27
  simp only [List.append_eq, List.cons_append, List.nil_append]
  go_wp2_with (first | (go_at_call 28; refine (l04Size_c _ _ _).mono ?_; rw [H1.out]; rintro e w' ⟨rfl, rfl⟩) | (go_at_call 60; refine (l01In_c _ _ _ _).mono ?_; (first | rw [H2.out] | rw [H3.out] | rw [H4.out] | rw [H5.out] | rw [H6.out] | rw [H7.out]); rintro e w' ⟨rfl, rfl⟩))
  go_ret
  exact ⟨rfl, (Below.refl _ _).alloc (Nat.le_refl _) _⟩
theorem screenOK_no8 (s : ScrI) (ac : Option Addr) (cc : Nat) (ah : Option Addr) (dh : Nat) (w : World) (hcl : s.cells.length ≤ 1048576) (hhl : s.hist.length ≤ 1048576) (h1 : (inB s.w 2 24 && inB s.h 2 10) = true) (h2 : inB s.x 0 s.w = true) (h3 : inB s.y 0 (s.h - 1) = true) (h4 : inB s.look 0 127 = true) (h5 : inB s.top 0 (s.h - 2) = true) (h6 : inB s.bot (s.top + 1) (s.h - 1) = true) (h7 : inB s.sx 0 s.w = true) (hk : inB s.sy 0 (s.h - 1) = false) :
    Calls Tryz.prog 27 #[.agg #[.int .i64 s.w, .int .i64 s.h, .int .i64 s.x, .int .i64 s.y, .int .i64 s.look, .int .i64 s.top, .int .i64 s.bot, .int .i64 s.sx, .int .i64 s.sy, .string s.title, .slice ac s.cells.length cc, .slice ah s.hist.length dh]] w fun e w' => e = .returned (.bool false) ∧ Below w.heap.size w w' := by
  have H1 := Lib.hid h1
  have H2 := Lib.hid h2
  have H3 := Lib.hid h3
  have H4 := Lib.hid h4
  have H5 := Lib.hid h5
  have H6 := Lib.hid h6
  have H7 := Lib.hid h7
  have H8 := Lib.hid hk
  clear hk h1 h2 h3 h4 h5 h6 h7
  have hw2 : 2 ≤ s.w ∧ s.w ≤ 24 := by have := H1.out; simp only [inB, Bool.and_eq_true, decide_eq_true_eq] at this; omega
  have hh2 : 2 ≤ s.h ∧ s.h ≤ 10 := by have := H1.out; simp only [inB, Bool.and_eq_true, decide_eq_true_eq] at this; omega
  obtain ⟨hw2a, hw2b⟩ := hw2
  obtain ⟨hh2a, hh2b⟩ := hh2
  have ht2 : 0 ≤ s.top ∧ s.top ≤ s.h - 2 := by have := H5.out; simp only [inB, Bool.and_eq_true, decide_eq_true_eq] at this; omega
  obtain ⟨ht2a, ht2b⟩ := ht2
  obtain ⟨nc, hnc⟩ : ∃ n, s.cells.length = n := ⟨_, rfl⟩
  obtain ⟨nh, hnh⟩ : ∃ n, s.hist.length = n := ⟨_, rfl⟩
  have HNC := Lib.hid hnc
  have HNH := Lib.hid hnh
  rw [hnc, hnh]
  rw [hnc] at hcl
  rw [hnh] at hhl
  clear hnc hnh
  go_enter Tryz.func27, Tryz.ntmps27
  simp only [List.append_eq, List.cons_append, List.nil_append]
  go_wp2_with (first | (go_at_call 28; refine (l04Size_c _ _ _).mono ?_; rw [H1.out]; rintro e w' ⟨rfl, rfl⟩) | (go_at_call 60; refine (l01In_c _ _ _ _).mono ?_; (first | rw [H2.out] | rw [H3.out] | rw [H4.out] | rw [H5.out] | rw [H6.out] | rw [H7.out] | rw [H8.out]); rintro e w' ⟨rfl, rfl⟩))
  go_ret
  exact ⟨rfl, (Below.refl _ _).alloc (Nat.le_refl _) _⟩
theorem screenOK_no9 (s : ScrI) (ac : Option Addr) (cc : Nat) (ah : Option Addr) (dh : Nat) (w : World) (hcl : s.cells.length ≤ 1048576) (hhl : s.hist.length ≤ 1048576) (h1 : (inB s.w 2 24 && inB s.h 2 10) = true) (h2 : inB s.x 0 s.w = true) (h3 : inB s.y 0 (s.h - 1) = true) (h4 : inB s.look 0 127 = true) (h5 : inB s.top 0 (s.h - 2) = true) (h6 : inB s.bot (s.top + 1) (s.h - 1) = true) (h7 : inB s.sx 0 s.w = true) (h8 : inB s.sy 0 (s.h - 1) = true) (hk : decide (s.title.size ≤ 40) = false) :
    Calls Tryz.prog 27 #[.agg #[.int .i64 s.w, .int .i64 s.h, .int .i64 s.x, .int .i64 s.y, .int .i64 s.look, .int .i64 s.top, .int .i64 s.bot, .int .i64 s.sx, .int .i64 s.sy, .string s.title, .slice ac s.cells.length cc, .slice ah s.hist.length dh]] w fun e w' => e = .returned (.bool false) ∧ Below w.heap.size w w' := by
  have H1 := Lib.hid h1
  have H2 := Lib.hid h2
  have H3 := Lib.hid h3
  have H4 := Lib.hid h4
  have H5 := Lib.hid h5
  have H6 := Lib.hid h6
  have H7 := Lib.hid h7
  have H8 := Lib.hid h8
  have H9 := Lib.hid hk
  clear hk h1 h2 h3 h4 h5 h6 h7 h8
  have hw2 : 2 ≤ s.w ∧ s.w ≤ 24 := by have := H1.out; simp only [inB, Bool.and_eq_true, decide_eq_true_eq] at this; omega
  have hh2 : 2 ≤ s.h ∧ s.h ≤ 10 := by have := H1.out; simp only [inB, Bool.and_eq_true, decide_eq_true_eq] at this; omega
  obtain ⟨hw2a, hw2b⟩ := hw2
  obtain ⟨hh2a, hh2b⟩ := hh2
  have ht2 : 0 ≤ s.top ∧ s.top ≤ s.h - 2 := by have := H5.out; simp only [inB, Bool.and_eq_true, decide_eq_true_eq] at this; omega
  obtain ⟨ht2a, ht2b⟩ := ht2
  obtain ⟨nc, hnc⟩ : ∃ n, s.cells.length = n := ⟨_, rfl⟩
  obtain ⟨nh, hnh⟩ : ∃ n, s.hist.length = n := ⟨_, rfl⟩
  have HNC := Lib.hid hnc
  have HNH := Lib.hid hnh
  rw [hnc, hnh]
  rw [hnc] at hcl
  rw [hnh] at hhl
  clear hnc hnh
  have h40 : (40 : Int) < (s.title.size : Int) := by have := H9.out; simp only [decide_eq_false_iff_not] at this; omega
  go_enter Tryz.func27, Tryz.ntmps27
  simp only [List.append_eq, List.cons_append, List.nil_append]
  go_wp2_with (first | (go_at_call 28; refine (l04Size_c _ _ _).mono ?_; rw [H1.out]; rintro e w' ⟨rfl, rfl⟩) | (go_at_call 60; refine (l01In_c _ _ _ _).mono ?_; (first | rw [H2.out] | rw [H3.out] | rw [H4.out] | rw [H5.out] | rw [H6.out] | rw [H7.out] | rw [H8.out]); rintro e w' ⟨rfl, rfl⟩))
  go_ret
  exact ⟨rfl, (Below.refl _ _).alloc (Nat.le_refl _) _⟩
theorem screenOK_no10 (s : ScrI) (ac : Option Addr) (cc : Nat) (ah : Option Addr) (dh : Nat) (w : World) (hcl : s.cells.length ≤ 1048576) (hhl : s.hist.length ≤ 1048576) (h1 : (inB s.w 2 24 && inB s.h 2 10) = true) (h2 : inB s.x 0 s.w = true) (h3 : inB s.y 0 (s.h - 1) = true) (h4 : inB s.look 0 127 = true) (h5 : inB s.top 0 (s.h - 2) = true) (h6 : inB s.bot (s.top + 1) (s.h - 1) = true) (h7 : inB s.sx 0 s.w = true) (h8 : inB s.sy 0 (s.h - 1) = true) (h9 : decide (s.title.size ≤ 40) = true) (hk : decide ((s.cells.length : Int) = s.w * s.h) = false) :
    Calls Tryz.prog 27 #[.agg #[.int .i64 s.w, .int .i64 s.h, .int .i64 s.x, .int .i64 s.y, .int .i64 s.look, .int .i64 s.top, .int .i64 s.bot, .int .i64 s.sx, .int .i64 s.sy, .string s.title, .slice ac s.cells.length cc, .slice ah s.hist.length dh]] w fun e w' => e = .returned (.bool false) ∧ Below w.heap.size w w' := by
  have H1 := Lib.hid h1
  have H2 := Lib.hid h2
  have H3 := Lib.hid h3
  have H4 := Lib.hid h4
  have H5 := Lib.hid h5
  have H6 := Lib.hid h6
  have H7 := Lib.hid h7
  have H8 := Lib.hid h8
  have H9 := Lib.hid h9
  have H10 := Lib.hid hk
  clear hk h1 h2 h3 h4 h5 h6 h7 h8 h9
  have hw2 : 2 ≤ s.w ∧ s.w ≤ 24 := by have := H1.out; simp only [inB, Bool.and_eq_true, decide_eq_true_eq] at this; omega
  have hh2 : 2 ≤ s.h ∧ s.h ≤ 10 := by have := H1.out; simp only [inB, Bool.and_eq_true, decide_eq_true_eq] at this; omega
  obtain ⟨hw2a, hw2b⟩ := hw2
  obtain ⟨hh2a, hh2b⟩ := hh2
  have ht2 : 0 ≤ s.top ∧ s.top ≤ s.h - 2 := by have := H5.out; simp only [inB, Bool.and_eq_true, decide_eq_true_eq] at this; omega
  obtain ⟨ht2a, ht2b⟩ := ht2
  obtain ⟨pr, hpr⟩ : ∃ p, s.w * s.h = p := ⟨_, rfl⟩
  have hpr0 : 0 ≤ pr := by rw [← hpr]; exact Int.mul_nonneg (by omega) (by omega)
  have hpr1 : pr ≤ 240 := by rw [← hpr]; exact Int.le_trans (Int.mul_le_mul_of_nonneg_right hw2b (by omega)) (by omega)
  obtain ⟨nc, hnc⟩ : ∃ n, s.cells.length = n := ⟨_, rfl⟩
  obtain ⟨nh, hnh⟩ : ∃ n, s.hist.length = n := ⟨_, rfl⟩
  have HNC := Lib.hid hnc
  have HNH := Lib.hid hnh
  rw [hnc, hnh]
  rw [hnc] at hcl
  rw [hnh] at hhl
  clear hnc hnh
  have h40 : ¬ (s.title.size : Int) > 40 := by have := H9.out; simp only [decide_eq_true_eq] at this; omega
  have hq : ((nc : Int) != pr) = true := by have := H10.out; rw [HNC.out, hpr] at this; simp only [decide_eq_false_iff_not] at this; simp [this]
  go_enter Tryz.func27, Tryz.ntmps27
  simp only [List.append_eq, List.cons_append, List.nil_append]
  go_wp2_with (first | (go_at_call 28; refine (l04Size_c _ _ _).mono ?_; rw [H1.out]; rintro e w' ⟨rfl, rfl⟩) | (go_at_call 60; refine (l01In_c _ _ _ _).mono ?_; (first | rw [H2.out] | rw [H3.out] | rw [H4.out] | rw [H5.out] | rw [H6.out] | rw [H7.out] | rw [H8.out]); rintro e w' ⟨rfl, rfl⟩))
  go_ret
  exact ⟨rfl, (Below.refl _ _).alloc (Nat.le_refl _) _⟩
theorem screenOK_no11 (s : ScrI) (ac : Option Addr) (cc : Nat) (ah : Option Addr) (dh : Nat) (w : World) (hcl : s.cells.length ≤ 1048576) (hhl : s.hist.length ≤ 1048576) (h1 : (inB s.w 2 24 && inB s.h 2 10) = true) (h2 : inB s.x 0 s.w = true) (h3 : inB s.y 0 (s.h - 1) = true) (h4 : inB s.look 0 127 = true) (h5 : inB s.top 0 (s.h - 2) = true) (h6 : inB s.bot (s.top + 1) (s.h - 1) = true) (h7 : inB s.sx 0 s.w = true) (h8 : inB s.sy 0 (s.h - 1) = true) (h9 : decide (s.title.size ≤ 40) = true) (h10 : decide ((s.cells.length : Int) = s.w * s.h) = true) (hk : decide (s.hist.length ≤ 6) = false) :
    Calls Tryz.prog 27 #[.agg #[.int .i64 s.w, .int .i64 s.h, .int .i64 s.x, .int .i64 s.y, .int .i64 s.look, .int .i64 s.top, .int .i64 s.bot, .int .i64 s.sx, .int .i64 s.sy, .string s.title, .slice ac s.cells.length cc, .slice ah s.hist.length dh]] w fun e w' => e = .returned (.bool false) ∧ Below w.heap.size w w' := by
  have H1 := Lib.hid h1
  have H2 := Lib.hid h2
  have H3 := Lib.hid h3
  have H4 := Lib.hid h4
  have H5 := Lib.hid h5
  have H6 := Lib.hid h6
  have H7 := Lib.hid h7
  have H8 := Lib.hid h8
  have H9 := Lib.hid h9
  have H10 := Lib.hid h10
  have H11 := Lib.hid hk
  clear hk h1 h2 h3 h4 h5 h6 h7 h8 h9 h10
  have hw2 : 2 ≤ s.w ∧ s.w ≤ 24 := by have := H1.out; simp only [inB, Bool.and_eq_true, decide_eq_true_eq] at this; omega
  have hh2 : 2 ≤ s.h ∧ s.h ≤ 10 := by have := H1.out; simp only [inB, Bool.and_eq_true, decide_eq_true_eq] at this; omega
  obtain ⟨hw2a, hw2b⟩ := hw2
  obtain ⟨hh2a, hh2b⟩ := hh2
  have ht2 : 0 ≤ s.top ∧ s.top ≤ s.h - 2 := by have := H5.out; simp only [inB, Bool.and_eq_true, decide_eq_true_eq] at this; omega
  obtain ⟨ht2a, ht2b⟩ := ht2
  obtain ⟨pr, hpr⟩ : ∃ p, s.w * s.h = p := ⟨_, rfl⟩
  have hpr0 : 0 ≤ pr := by rw [← hpr]; exact Int.mul_nonneg (by omega) (by omega)
  have hpr1 : pr ≤ 240 := by rw [← hpr]; exact Int.le_trans (Int.mul_le_mul_of_nonneg_right hw2b (by omega)) (by omega)
  obtain ⟨nc, hnc⟩ : ∃ n, s.cells.length = n := ⟨_, rfl⟩
  obtain ⟨nh, hnh⟩ : ∃ n, s.hist.length = n := ⟨_, rfl⟩
  have HNC := Lib.hid hnc
  have HNH := Lib.hid hnh
  rw [hnc, hnh]
  rw [hnc] at hcl
  rw [hnh] at hhl
  clear hnc hnh
  have h40 : ¬ (s.title.size : Int) > 40 := by have := H9.out; simp only [decide_eq_true_eq] at this; omega
  have hq : ((nc : Int) != pr) = false := by have := H10.out; rw [HNC.out, hpr] at this; simp only [decide_eq_true_eq] at this; simp [this]
  have h6 : (6 : Int) < (nh : Int) := by have := H11.out; rw [HNH.out] at this; simp only [decide_eq_false_iff_not] at this; omega
  go_enter Tryz.func27, Tryz.ntmps27
  simp only [List.append_eq, List.cons_append, List.nil_append]
  go_wp2_with (first | (go_at_call 28; refine (l04Size_c _ _ _).mono ?_; rw [H1.out]; rintro e w' ⟨rfl, rfl⟩) | (go_at_call 60; refine (l01In_c _ _ _ _).mono ?_; (first | rw [H2.out] | rw [H3.out] | rw [H4.out] | rw [H5.out] | rw [H6.out] | rw [H7.out] | rw [H8.out]); rintro e w' ⟨rfl, rfl⟩))
  go_ret
  exact ⟨rfl, (Below.refl _ _).alloc (Nat.le_refl _) _⟩
end
section
open Go.RowKit
theorem all_take_next {α : Type} {p : α → Bool} {l : List α} {k : Nat} (hk : k < l.length) : (l.take (k + 1)).all p = ((l.take k).all p && p l[k]) := by
  rw [List.take_succ_eq_append_getElem hk, List.all_append]
  simp
theorem all_no {α : Type} {p : α → Bool} {l : List α} {k : Nat} (hk : k < l.length) (h : p l[k] = false) : l.all p = false := by
  rw [List.all_eq_false]
  exact ⟨l[k], List.getElem_mem hk, by simp [h]⟩
theorem screenOK_yes (s : ScrI) (ac : Option Addr) (cc : Nat) (ah : Option Addr) (dh : Nat) (w : World) (ha : Sl celE 2 w ac s.cells) (hb : Sl strE 1 w ah s.hist) (h1 : (inB s.w 2 24 && inB s.h 2 10) = true) (h2 : inB s.x 0 s.w = true) (h3 : inB s.y 0 (s.h - 1) = true) (h4 : inB s.look 0 127 = true) (h5 : inB s.top 0 (s.h - 2) = true) (h6 : inB s.bot (s.top + 1) (s.h - 1) = true) (h7 : inB s.sx 0 s.w = true) (h8 : inB s.sy 0 (s.h - 1) = true) (h9 : decide (s.title.size ≤ 40) = true) (h10 : decide ((s.cells.length : Int) = s.w * s.h) = true) (h11 : decide (s.hist.length ≤ 6) = true) :
    Calls Tryz.prog 27 #[.agg #[.int .i64 s.w, .int .i64 s.h, .int .i64 s.x, .int .i64 s.y, .int .i64 s.look, .int .i64 s.top, .int .i64 s.bot, .int .i64 s.sx, .int .i64 s.sy, .string s.title, .slice ac s.cells.length cc, .slice ah s.hist.length dh]] w fun e w' => e = .returned (.bool (tiB s.title.data.toList && s.cells.all celB && s.hist.all fun t => decide (t.size ≤ 96))) ∧ Below w.heap.size w w' := by
  have H1 := Lib.hid h1
  have H2 := Lib.hid h2
  have H3 := Lib.hid h3
  have H4 := Lib.hid h4
  have H5 := Lib.hid h5
  have H6 := Lib.hid h6
  have H7 := Lib.hid h7
  have H8 := Lib.hid h8
  have H9 := Lib.hid h9
  have H10 := Lib.hid h10
  have H11 := Lib.hid h11
  clear h1 h2 h3 h4 h5 h6 h7 h8 h9 h10 h11
  have HA := Lib.hid ha
  have HBB := Lib.hid hb
  have hw2 : 2 ≤ s.w ∧ s.w ≤ 24 := by have := H1.out; simp only [inB, Bool.and_eq_true, decide_eq_true_eq] at this; omega
  have hh2 : 2 ≤ s.h ∧ s.h ≤ 10 := by have := H1.out; simp only [inB, Bool.and_eq_true, decide_eq_true_eq] at this; omega
  obtain ⟨hw2a, hw2b⟩ := hw2
  obtain ⟨hh2a, hh2b⟩ := hh2
  have ht2 : 0 ≤ s.top ∧ s.top ≤ s.h - 2 := by have := H5.out; simp only [inB, Bool.and_eq_true, decide_eq_true_eq] at this; omega
  obtain ⟨ht2a, ht2b⟩ := ht2
  obtain ⟨pr, hpr⟩ : ∃ p, s.w * s.h = p := ⟨_, rfl⟩
  have hpr0 : 0 ≤ pr := by rw [← hpr]; exact Int.mul_nonneg (by omega) (by omega)
  have hpr1 : pr ≤ 240 := by rw [← hpr]; exact Int.le_trans (Int.mul_le_mul_of_nonneg_right hw2b (by omega)) (by omega)
  obtain ⟨nc, hnc⟩ : ∃ n, s.cells.length = n := ⟨_, rfl⟩
  obtain ⟨nh, hnh⟩ : ∃ n, s.hist.length = n := ⟨_, rfl⟩
  have HNC := Lib.hid hnc
  have HNH := Lib.hid hnh
  rw [hnc, hnh]
  clear hnc hnh ha hb
  have h40 : ¬ (s.title.size : Int) > 40 := by have := H9.out; simp only [decide_eq_true_eq] at this; omega
  have hq : ((nc : Int) != pr) = false := by have := H10.out; rw [HNC.out, hpr] at this; simp only [decide_eq_true_eq] at this; simp [this]
  have h6 : ¬ (nh : Int) > 6 := by have := H11.out; rw [HNH.out] at this; simp only [decide_eq_true_eq] at this; omega
  have hnc240 : (nc : Int) ≤ 240 := by have := H10.out; rw [HNC.out, hpr] at this; simp only [decide_eq_true_eq] at this; omega
  obtain ⟨T, hT⟩ : ∃ T, s.title = T := ⟨_, rfl⟩
  have HT := Lib.hid hT
  rw [hT] at h40 ⊢
  clear hT
  obtain ⟨W1, hW1⟩ : ∃ x, w.alloc (.cells #[.int .i64 s.w, .int .i64 s.h, .int .i64 s.x, .int .i64 s.y, .int .i64 s.look, .int .i64 s.top, .int .i64 s.bot, .int .i64 s.sx, .int .i64 s.sy, .string T, .slice ac nc cc, .slice ah nh dh] 26) = x := ⟨_, rfl⟩
  have HB1 : Hid (Below w.heap.size w W1) := Lib.hid (by rw [← hW1]; exact (Below.refl _ _).alloc (Nat.le_refl _) _)
  have k_0 : W1.cell? ⟨w.heap.size, 0, none⟩ = some (.int .i64 s.w) := by rw [← hW1]; simp [go_sem]
  have k_1 : W1.cell? ⟨w.heap.size, 1, none⟩ = some (.int .i64 s.h) := by rw [← hW1]; simp [go_sem]
  have k_2 : W1.cell? ⟨w.heap.size, 2, none⟩ = some (.int .i64 s.x) := by rw [← hW1]; simp [go_sem]
  have k_3 : W1.cell? ⟨w.heap.size, 3, none⟩ = some (.int .i64 s.y) := by rw [← hW1]; simp [go_sem]
  have k_4 : W1.cell? ⟨w.heap.size, 4, none⟩ = some (.int .i64 s.look) := by rw [← hW1]; simp [go_sem]
  have k_5 : W1.cell? ⟨w.heap.size, 5, none⟩ = some (.int .i64 s.top) := by rw [← hW1]; simp [go_sem]
  have k_6 : W1.cell? ⟨w.heap.size, 6, none⟩ = some (.int .i64 s.bot) := by rw [← hW1]; simp [go_sem]
  have k_7 : W1.cell? ⟨w.heap.size, 7, none⟩ = some (.int .i64 s.sx) := by rw [← hW1]; simp [go_sem]
  have k_8 : W1.cell? ⟨w.heap.size, 8, none⟩ = some (.int .i64 s.sy) := by rw [← hW1]; simp [go_sem]
  have k_9 : W1.cell? ⟨w.heap.size, 9, none⟩ = some (.string T) := by rw [← hW1]; simp [go_sem]
  have k_10 : W1.cell? ⟨w.heap.size, 10, none⟩ = some (.slice ac nc cc) := by rw [← hW1]; simp [go_sem]
  have k_11 : W1.cell? ⟨w.heap.size, 11, none⟩ = some (.slice ah nh dh) := by rw [← hW1]; simp [go_sem]
  have k_l : w.heap.size < W1.heap.size := by rw [← hW1]; simp
  obtain ⟨R, hR⟩ : ∃ R, (tiB T.data.toList && s.cells.all celB && s.hist.all fun t => decide (t.size ≤ 96)) = R := ⟨_, rfl⟩
  have HRR := Lib.hid hR
  rw [hR]
  clear hR
  go_enter Tryz.func27, Tryz.ntmps27
  simp only [List.append_eq, List.cons_append, List.nil_append]
  go_upto_region 3 with (first | (go_at_call 28; refine (l04Size_c _ _ _).mono ?_; rw [H1.out]; rintro e w' ⟨rfl, rfl⟩) | (go_at_call 60; refine (l01In_c _ _ _ _).mono ?_; (first | rw [H2.out] | rw [H3.out] | rw [H4.out] | rw [H5.out] | rw [H6.out] | rw [H7.out] | rw [H8.out]); rintro e w' ⟨rfl, rfl⟩))
  clear hW1 k_0 k_1 k_2 k_3 k_4 k_5 k_6 k_7 k_8
  go_wp2_with fail
  go_loopw [3] (fun iv wr => ∃ k : Nat, iv = .int .i64 k ∧ k ≤ T.size ∧ Hid (tiB (T.data.toList.take k) = true) ∧ W1 = wr) (fun iv _ => T.size - (intOf iv).toNat)
  case atStart => exact ⟨0, rfl, Nat.zero_le _, rfl, rfl⟩
  case round =>
    obtain ⟨k, rfl, hk, hall, rfl⟩ := hrel
    by_cases hlt : k < T.size
    · have hlt' : (k : Int) < (T.size : Int) := by omega
      have hi0 : (0 : Int) ≤ (k : Int) := by omega
      have hkl : k < T.data.toList.length := hlt
      obtain ⟨n, hn⟩ : ∃ n, n = (T[k]'hlt).toNat := ⟨_, rfl⟩
      have hb2 : (T[k]'hlt).toNat = n := hn.symm
      have HN : Hid ((T.data.toList[k]'hkl).toNat = n) := Lib.hid (by rw [← hb2]; rfl)
      obtain ⟨u, hu⟩ : ∃ u, inB (n : Int) 32 126 = u := ⟨_, rfl⟩
      have HU := Lib.hid hu
      have hp : (decide (32 ≤ (T.data.toList[k]'hkl).toNat) && decide ((T.data.toList[k]'hkl).toNat ≤ 126)) = u := by
        rw [HN.out, ← hu]
        unfold inB
        congr 1 <;> simp only [decide_eq_decide] <;> omega
      have HP := Lib.hid hp
      have hn256 : n < 256 := by rw [← hb2]; exact (T[k]'hlt).toNat_lt
      clear hn hu hp
      cases u with
      | true =>
        have HNX : Hid (tiB (T.data.toList.take (k + 1)) = true) := Lib.hid (by
          unfold tiB
          rw [all_take_next hkl, HP.out]
          exact (Bool.and_eq_true _ _).mpr ⟨hall.out, rfl⟩)
        go_wp2_with (go_at_call 60; refine (l01In_c _ _ _ _).mono ?_; rw [HU.out]; rintro e w' ⟨rfl, rfl⟩)
        go_roundw
        case rel => exact ⟨k + 1, by go_num, by omega, HNX, trivial⟩
        case measure => simp [intOf]; omega
      | false =>
        have HNO : Hid (R = false) := Lib.hid (by
          rw [← HRR.out]
          have : tiB T.data.toList = false := all_no hkl HP.out
          rw [this]
          rfl)
        go_wp2_with (go_at_call 60; refine (l01In_c _ _ _ _).mono ?_; rw [HU.out]; rintro e w' ⟨rfl, rfl⟩)
        go_ret
        exact ⟨by rw [HNO.out]; rfl, HB1.out⟩
    · obtain rfl : k = T.size := by omega
      have HTI : Hid (tiB T.data.toList = true) := Lib.hid (by
        have := hall.out
        have e : T.data.toList.take T.size = T.data.toList := List.take_of_length_le (Nat.le_refl T.data.toList.length)
        rwa [e] at this)
      go_wp2_with fail
      go_loopw [4] (fun iv wr => ∃ k : Nat, iv = .int .i64 k ∧ k ≤ nc ∧ Hid ((s.cells.take k).all celB = true ∧ Below W1.heap.size W1 wr)) (fun iv _ => nc - (intOf iv).toNat)
      case atStart => exact ⟨0, rfl, Nat.zero_le _, Lib.hid ⟨rfl, Below.refl _ _⟩⟩
      case round =>
        obtain ⟨k, rfl, hk2, HQ⟩ := hrel
        have q_10 : wr.cell? ⟨w.heap.size, 10, none⟩ = some (.slice ac nc cc) := (HQ.out.2.cell (p := ⟨w.heap.size, 10, none⟩) k_l).trans k_10
        have q_11 : wr.cell? ⟨w.heap.size, 11, none⟩ = some (.slice ah nh dh) := (HQ.out.2.cell (p := ⟨w.heap.size, 11, none⟩) k_l).trans k_11
        by_cases hlt2 : k < nc
        · have hlt' : (k : Int) < (nc : Int) := by omega
          have hkl : k < s.cells.length := by rw [HNC.out]; exact hlt2
          obtain ⟨b1, o1, rfl, hb1, hc1⟩ := ((HA.out.keep HB1.out).keep HQ.out.2).at hkl
          obtain ⟨c, hc⟩ : ∃ c, s.cells[k] = c := ⟨_, rfl⟩
          have c1 := hc1 k hkl 0 (by omega)
          have c2 := hc1 k hkl 1 (by omega)
          rw [hc] at c1 c2
          simp only [celE, Nat.add_zero, List.getElem?_cons_zero, List.getElem?_cons_succ] at c1 c2
          obtain ⟨u, hu⟩ : ∃ u, celB c = u := ⟨_, rfl⟩
          have HU := Lib.hid hu
          have HP : Hid (celB (s.cells[k]'hkl) = u) := Lib.hid (by rw [hc]; exact hu)
          clear hc1 hc hu
          go_wp2_with fail
          refine (l04Cell_c c _).mono ?_
          rw [HU.out]
          rintro e w2 ⟨rfl, hb2⟩
          have HB2 : Hid (Below W1.heap.size W1 w2) := Lib.hid (HQ.out.2.trans (hb2.mono HQ.out.2.size))
          clear hb2 HU
          cases u with
          | true =>
            go_wp2_with fail
            go_roundw
            case rel => exact ⟨k + 1, by go_num, by omega, Lib.hid ⟨by rw [all_take_next hkl, HP.out, HQ.out.1]; rfl, HB2.out⟩⟩
            case measure => simp [intOf]; omega
          | false =>
            have HNO : Hid (R = false) := Lib.hid (by
              rw [← HRR.out, all_no hkl HP.out]
              simp)
            go_wp2_with fail
            go_ret
            exact ⟨by rw [HNO.out]; rfl, HB1.out.trans (HB2.out.mono HB1.out.size)⟩
        · obtain rfl : k = nc := by omega
          have HCE : Hid (s.cells.all celB = true) := Lib.hid (by
            have := HQ.out.1
            rwa [List.take_of_length_le (by rw [HNC.out]; exact Nat.le_refl _)] at this)
          obtain ⟨W2, hW2⟩ : ∃ x, x = wr := ⟨_, rfl⟩
          subst hW2
          go_wp2_with fail
          go_loopw [5] (fun iv wr => ∃ k : Nat, iv = .int .i64 k ∧ k ≤ nh ∧ Hid ((s.hist.take k).all (fun t => decide (t.size ≤ 96)) = true) ∧ W2 = wr) (fun iv _ => nh - (intOf iv).toNat)
          case atStart => exact ⟨0, rfl, Nat.zero_le _, rfl, rfl⟩
          case round =>
            obtain ⟨j, rfl, hj2, HJ, rfl⟩ := hrel
            by_cases hlt3 : j < nh
            · have hlt' : (j : Int) < (nh : Int) := by omega
              have hkl : j < s.hist.length := by rw [HNH.out]; exact hlt3
              obtain ⟨b1, o1, rfl, hb1, hc1⟩ := ((HBB.out.keep HB1.out).keep HQ.out.2).at hkl
              obtain ⟨t, ht⟩ : ∃ t, s.hist[j] = t := ⟨_, rfl⟩
              have c1 := hc1 j hkl 0 (by omega)
              rw [ht] at c1
              simp only [strE, Nat.mul_one, Nat.add_zero, List.getElem?_cons_zero] at c1
              have HTT : Hid ((s.hist[j]'hkl).size = t.size) := Lib.hid (by rw [ht])
              clear hc1 ht
              by_cases h96 : t.size ≤ 96
              · have h96' : ¬ (t.size : Int) > 96 := by omega
                go_wp2_with fail
                go_roundw
                case rel => exact ⟨j + 1, by go_num, by omega, Lib.hid (by rw [all_take_next hkl, HTT.out, HJ.out]; simp [h96]), trivial⟩
                case measure => simp [intOf]; omega
              · have h96' : (96 : Int) < (t.size : Int) := by omega
                have HNO : Hid (R = false) := Lib.hid (by
                  rw [← HRR.out, all_no hkl (by rw [HTT.out]; simp [h96])]
                  simp)
                go_wp2_with fail
                go_ret
                exact ⟨by rw [HNO.out]; rfl, HB1.out.trans (HQ.out.2.mono HB1.out.size)⟩
            · obtain rfl : j = nh := by omega
              have HHI : Hid (s.hist.all (fun t => decide (t.size ≤ 96)) = true) := Lib.hid (by
                have := HJ.out
                rwa [List.take_of_length_le (by rw [HNH.out]; exact Nat.le_refl _)] at this)
              go_wp2_with fail
              go_ret
              exact ⟨by rw [← HRR.out, HTI.out, HCE.out, HHI.out]; rfl, HB1.out.trans (HQ.out.2.mono HB1.out.size)⟩
theorem specScreenOK_c (s : ScrI) (ac : Option Addr) (cc : Nat) (ah : Option Addr) (dh : Nat) (w : World) (ha : Sl celE 2 w ac s.cells) (hb : Sl strE 1 w ah s.hist) (hcl : s.cells.length ≤ 1048576) (hhl : s.hist.length ≤ 1048576) :
    Calls Tryz.prog 27 #[.agg #[.int .i64 s.w, .int .i64 s.h, .int .i64 s.x, .int .i64 s.y, .int .i64 s.look, .int .i64 s.top, .int .i64 s.bot, .int .i64 s.sx, .int .i64 s.sy, .string s.title, .slice ac s.cells.length cc, .slice ah s.hist.length dh]] w fun e w' => e = .returned (.bool (scrB s)) ∧ Below w.heap.size w w' := by
  cases h1 : (inB s.w 2 24 && inB s.h 2 10)
  · have e : scrB s = false := by unfold scrB scrH; rw [h1]; simp
    rw [e]
    exact screenOK_no1 s ac cc ah dh w hcl hhl h1
  cases h2 : inB s.x 0 s.w
  · have e : scrB s = false := by unfold scrB scrH; rw [h1, h2]; simp
    rw [e]
    exact screenOK_no2 s ac cc ah dh w hcl hhl h1 h2
  cases h3 : inB s.y 0 (s.h - 1)
  · have e : scrB s = false := by unfold scrB scrH; rw [h1, h2, h3]; simp
    rw [e]
    exact screenOK_no3 s ac cc ah dh w hcl hhl h1 h2 h3
  cases h4 : inB s.look 0 127
  · have e : scrB s = false := by unfold scrB scrH; rw [h1, h2, h3, h4]; simp
    rw [e]
    exact screenOK_no4 s ac cc ah dh w hcl hhl h1 h2 h3 h4
  cases h5 : inB s.top 0 (s.h - 2)
  · have e : scrB s = false := by unfold scrB scrH; rw [h1, h2, h3, h4, h5]; simp
    rw [e]
    exact screenOK_no5 s ac cc ah dh w hcl hhl h1 h2 h3 h4 h5
  cases h6 : inB s.bot (s.top + 1) (s.h - 1)
  · have e : scrB s = false := by unfold scrB scrH; rw [h1, h2, h3, h4, h5, h6]; simp
    rw [e]
    exact screenOK_no6 s ac cc ah dh w hcl hhl h1 h2 h3 h4 h5 h6
  cases h7 : inB s.sx 0 s.w
  · have e : scrB s = false := by unfold scrB scrH; rw [h1, h2, h3, h4, h5, h6, h7]; simp
    rw [e]
    exact screenOK_no7 s ac cc ah dh w hcl hhl h1 h2 h3 h4 h5 h6 h7
  cases h8 : inB s.sy 0 (s.h - 1)
  · have e : scrB s = false := by unfold scrB scrH; rw [h1, h2, h3, h4, h5, h6, h7, h8]; simp
    rw [e]
    exact screenOK_no8 s ac cc ah dh w hcl hhl h1 h2 h3 h4 h5 h6 h7 h8
  cases h9 : decide (s.title.size ≤ 40)
  · have e : scrB s = false := by unfold scrB scrH; rw [h1, h2, h3, h4, h5, h6, h7, h8, h9]; simp
    rw [e]
    exact screenOK_no9 s ac cc ah dh w hcl hhl h1 h2 h3 h4 h5 h6 h7 h8 h9
  cases h10 : decide ((s.cells.length : Int) = s.w * s.h)
  · have e : scrB s = false := by unfold scrB scrH; rw [h1, h2, h3, h4, h5, h6, h7, h8, h9, h10]; simp
    rw [e]
    exact screenOK_no10 s ac cc ah dh w hcl hhl h1 h2 h3 h4 h5 h6 h7 h8 h9 h10
  cases h11 : decide (s.hist.length ≤ 6)
  · have e : scrB s = false := by unfold scrB scrH; rw [h1, h2, h3, h4, h5, h6, h7, h8, h9, h10, h11]; simp
    rw [e]
    exact screenOK_no11 s ac cc ah dh w hcl hhl h1 h2 h3 h4 h5 h6 h7 h8 h9 h10 h11
  have e : scrB s = (tiB s.title.data.toList && s.cells.all celB && s.hist.all fun t => decide (t.size ≤ 96)) := by unfold scrB scrH; rw [h1, h2, h3, h4, h5, h6, h7, h8, h9, h10, h11]; simp
  rw [e]
  exact screenOK_yes s ac cc ah dh w ha hb h1 h2 h3 h4 h5 h6 h7 h8 h9 h10 h11
end
section
open Go.RowKit
def ncB (c : Cl) : Bool := !celB c
def bigH (t : ByteArray) : Bool := decide (96 < t.size)
theorem index_cel (a : Option Addr) (ca : Nat) (xs : List Cl) (w : World) (ha : Sl celE 2 w a xs) (la : xs.length ≤ 1048576) :
    Calls Tryz.prog 94 #[.slice a xs.length ca, .func (.func 56) #[] #[]] w fun e w' => (∃ i : Int, e = .returned (.int .i64 i) ∧ Hid (decide (0 ≤ i) = xs.any ncB)) ∧ Below w.heap.size w w' := by
  have HA := Lib.hid ha
  obtain ⟨nc, hnc⟩ : ∃ n, xs.length = n := ⟨_, rfl⟩
  have HNC := Lib.hid hnc
  rw [hnc] at la ⊢
  clear hnc ha
  go_enter Tryz.func94, Tryz.ntmps94
  go_wp2_with fail
  go_loopw [5, 8] (fun _ i wr => ∃ k : Nat, k ≤ nc ∧ i = .int .i64 k ∧ Hid ((xs.take k).any ncB = false ∧ Below w.heap.size w wr)) (fun _ i _ => nc - (intOf i).toNat)
  case atStart => exact ⟨0, Nat.zero_le _, rfl, Lib.hid ⟨rfl, Below.refl _ _⟩⟩
  case round =>
    obtain ⟨k, hk, rfl, HQ⟩ := hrel
    by_cases hlt : k < nc
    · have hlt' : (k : Int) < (nc : Int) := by omega
      have hkl : k < xs.length := by rw [HNC.out]; exact hlt
      obtain ⟨b1, o1, rfl, hb1, hc1⟩ := (HA.out.keep HQ.out.2).at hkl
      obtain ⟨c, hc⟩ : ∃ c, xs[k] = c := ⟨_, rfl⟩
      have c1 := hc1 k hkl 0 (by omega)
      have c2 := hc1 k hkl 1 (by omega)
      rw [hc] at c1 c2
      simp only [celE, Nat.add_zero, List.getElem?_cons_zero, List.getElem?_cons_succ] at c1 c2
      obtain ⟨u, hu⟩ : ∃ u, celB c = u := ⟨_, rfl⟩
      have HCALL : ∀ W, Calls Tryz.prog 56 #[.agg #[.int .i64 c.1, .int .i64 c.2]] W fun e w' => e = .returned (.bool (!u)) ∧ Below W.heap.size W w' := fun W => by rw [← hu]; exact isScreen2_c c W
      have HP : Hid (ncB (xs[k]'hkl) = !u) := Lib.hid (by unfold ncB; rw [hc, hu])
      clear hc1 hc hu
      go_wp2_with fail
      refine (HCALL _).mono ?_
      rintro e w2 ⟨rfl, hb2⟩
      have HB2 : Hid (Below w.heap.size w w2) := Lib.hid (HQ.out.2.trans (hb2.mono HQ.out.2.size))
      clear hb2
      cases u with
      | true =>
        go_wp2_with fail
        go_roundw
        case rel => exact ⟨k + 1, by omega, by go_num, Lib.hid ⟨by rw [List.take_succ_eq_append_getElem hkl, List.any_append, HQ.out.1, List.any_cons, HP.out]; rfl, HB2.out⟩⟩
        case measure => simp [intOf]; omega
      | false =>
        go_wp2_with fail
        go_ret
        exact ⟨⟨_, rfl, Lib.hid (by rw [any_at hkl HP.out]; show decide _ = _; simp)⟩, HB2.out⟩
    · obtain rfl : k = nc := by omega
      go_wp2_with fail
      go_ret
      refine ⟨⟨_, rfl, Lib.hid ?_⟩, HQ.out.2⟩
      have := HQ.out.1
      rw [List.take_of_length_le (by rw [HNC.out]; exact Nat.le_refl _)] at this
      rw [this]
      rfl
theorem contains_cel (a : Option Addr) (ca : Nat) (xs : List Cl) (w : World) (ha : Sl celE 2 w a xs) (la : xs.length ≤ 1048576) :
    Calls Tryz.prog 55 #[.slice a xs.length ca, .func (.func 56) #[] #[]] w fun e w' => e = .returned (.bool (xs.any ncB)) ∧ Below w.heap.size w w' := by
  have HA := Lib.hid ha
  clear ha
  go_enter Tryz.func55, Tryz.ntmps55
  go_wp2_with fail
  refine (index_cel a ca xs _ HA.out la).mono ?_
  rintro e w' ⟨⟨i, rfl, hi⟩, hb⟩
  have HB := Lib.hid hb
  clear hb
  go_wp2_with fail
  go_ret
  exact ⟨by rw [← hi.out]; rfl, HB.out⟩
def sz_impl_isScreen_1 (_ : ByteArray) : Prop := True
theorem f_impl_isScreen_1 (r : ByteArray) (w : World) (_ : sz_impl_isScreen_1 r) : Calls Tryz.prog 54 #[.string r] w fun e w' => e = .returned (.bool (bigH r)) ∧ w = w' := by
  by_cases h : 96 < r.size
  all_goals
    go_enter Tryz.func54, Tryz.ntmps54
    go_wp2_with fail
    go_ret
    exact ⟨by simp [bigH]; try omega, rfl⟩
theorem index_impl_isScreen_1 (a : Option Addr) (ca : Nat) (xs : List ByteArray) (w : World) (ha : Sl strE 1 w a xs) (la : xs.length ≤ 1099511627776) (hq : ∀ x ∈ xs, sz_impl_isScreen_1 x) :
    Calls Tryz.prog 93 #[.slice a xs.length ca, .func (.func 54) #[] #[]] w fun e w' => (∃ i : Int, e = .returned (.int .i64 i) ∧ Hid (decide (0 ≤ i) = xs.any bigH)) ∧ w = w' := by
  have HQ := Lib.hid hq
  clear hq
  go_enter Tryz.func93, Tryz.ntmps93
  go_wp2_with fail
  go_loop [5, 8] (fun _ i => ∃ k : Nat, k ≤ xs.length ∧ i = .int .i64 k ∧ ∀ j (hj : j < xs.length), j < k → bigH xs[j] = false) (fun _ i => xs.length - (intOf i).toNat)
  case atStart => exact ⟨0, Nat.zero_le _, rfl, fun j _ h => absurd h (Nat.not_lt_zero _)⟩
  case round =>
    obtain ⟨k, hk, rfl, hp⟩ := hrel
    have HP := Lib.hid hp
    clear hp
    by_cases hlt : k < xs.length
    · obtain ⟨b1, o1, rfl, hb1, hc1⟩ := ha.at hlt
      have c1 := hc1 k hlt 0 (by omega)
      simp only [strE, Nat.mul_one, Nat.add_zero, List.getElem?_cons_zero] at c1
      have hx := HQ.out xs[k] (List.getElem_mem _)
      clear hc1
      cases hpk : bigH xs[k]
      · have HPK := Lib.hid hpk
        clear hpk
        go_wp2_with (go_at_call 54; refine (f_impl_isScreen_1 xs[k] _ hx).mono ?_; rw [HPK.out]; rintro e w' ⟨rfl, rfl⟩)
        go_round
        case rel => exact ⟨k + 1, by omega, by go_num, fun j hj h => by
          rcases Nat.lt_succ_iff_lt_or_eq.1 h with h | rfl
          · exact HP.out j hj h
          · exact HPK.out⟩
        case measure => simp [intOf]; omega
      · have HPK := Lib.hid hpk
        clear hpk
        go_wp2_with (go_at_call 54; refine (f_impl_isScreen_1 xs[k] _ hx).mono ?_; rw [HPK.out]; rintro e w' ⟨rfl, rfl⟩)
        go_ret
        exact ⟨⟨_, rfl, by rw [any_at hlt HPK.out]; show decide _ = _; simp⟩, rfl⟩
    · obtain rfl : k = xs.length := by omega
      go_wp2_with fail
      go_ret
      exact ⟨⟨_, rfl, by rw [take_none HP.out (Nat.le_refl _)]; rfl⟩, rfl⟩
theorem contains_impl_isScreen_1 (a : Option Addr) (ca : Nat) (xs : List ByteArray) (w : World) (ha : Sl strE 1 w a xs) (la : xs.length ≤ 1099511627776) (hq : ∀ x ∈ xs, sz_impl_isScreen_1 x) :
    Calls Tryz.prog 53 #[.slice a xs.length ca, .func (.func 54) #[] #[]] w fun e w' => e = .returned (.bool (xs.any bigH)) ∧ w = w' := by
  have HQ := Lib.hid hq
  clear hq
  go_enter Tryz.func53, Tryz.ntmps53
  go_wp2_with fail
  refine (index_impl_isScreen_1 a ca xs _ ha la HQ.out).mono ?_
  rintro e w' ⟨⟨i, rfl, hi⟩, rfl⟩
  go_wp2_with fail
  go_ret
  exact ⟨by rw [← hi.out]; rfl, rfl⟩
end
section
open Go.RowKit
theorem isScreen_no1 (s : ScrI) (ac : Option Addr) (cc : Nat) (ah : Option Addr) (dh : Nat) (w : World) (ha : Sl celE 2 w ac s.cells) (hb : Sl strE 1 w ah s.hist) (hcl : s.cells.length ≤ 1048576) (hhl : s.hist.length ≤ 1048576) (htl : s.title.size ≤ 1099511627776)  (hk : (inB s.w 2 24 && inB s.h 2 10) = false) :
    Calls Tryz.prog 24 #[.agg #[.int .i64 s.w, .int .i64 s.h, .int .i64 s.x, .int .i64 s.y, .int .i64 s.look, .int .i64 s.top, .int .i64 s.bot, .int .i64 s.sx, .int .i64 s.sy, .string s.title, .slice ac s.cells.length cc, .slice ah s.hist.length dh]] w fun e w' => e = .returned (.bool false) ∧ Below w.heap.size w w' := by
  have H1 := Lib.hid hk
  have HA := Lib.hid ha
  have HBB := Lib.hid hb
  clear ha hb hk 
  obtain ⟨nc, hnc⟩ : ∃ n, s.cells.length = n := ⟨_, rfl⟩
  obtain ⟨nh, hnh⟩ : ∃ n, s.hist.length = n := ⟨_, rfl⟩
  have HNC := Lib.hid hnc
  have HNH := Lib.hid hnh
  rw [hnc, hnh]
  rw [hnc] at hcl
  rw [hnh] at hhl
  clear hnc hnh
  obtain ⟨T, hT⟩ : ∃ T, s.title = T := ⟨_, rfl⟩
  rw [hT] at htl ⊢
  clear hT
  have HB1 : ∀ x, Hid (Below w.heap.size w (w.alloc x)) := fun x => Lib.hid ((Below.refl _ _).alloc (Nat.le_refl _) _)
  go_enter Tryz.func24, Tryz.ntmps24
  try simp only [List.append_eq, List.cons_append, List.nil_append]
  go_wp2_with (first | (go_at_call 25; refine (isSize_c _ _ _).mono ?_; rw [H1.out]; rintro e w' ⟨rfl, rfl⟩))
  go_ret
  exact ⟨rfl, (Below.refl _ _).alloc (Nat.le_refl _) _⟩
theorem isScreen_no2 (s : ScrI) (ac : Option Addr) (cc : Nat) (ah : Option Addr) (dh : Nat) (w : World) (ha : Sl celE 2 w ac s.cells) (hb : Sl strE 1 w ah s.hist) (hcl : s.cells.length ≤ 1048576) (hhl : s.hist.length ≤ 1048576) (htl : s.title.size ≤ 1099511627776) (h1 : (inB s.w 2 24 && inB s.h 2 10) = true) (hk : inB s.x 0 s.w = false) :
    Calls Tryz.prog 24 #[.agg #[.int .i64 s.w, .int .i64 s.h, .int .i64 s.x, .int .i64 s.y, .int .i64 s.look, .int .i64 s.top, .int .i64 s.bot, .int .i64 s.sx, .int .i64 s.sy, .string s.title, .slice ac s.cells.length cc, .slice ah s.hist.length dh]] w fun e w' => e = .returned (.bool false) ∧ Below w.heap.size w w' := by
  have H1 := Lib.hid h1
  have H2 := Lib.hid hk
  have HA := Lib.hid ha
  have HBB := Lib.hid hb
  clear ha hb hk h1
  have hw2 : 2 ≤ s.w ∧ s.w ≤ 24 := by have := H1.out; simp only [inB, Bool.and_eq_true, decide_eq_true_eq] at this; omega
  have hh2 : 2 ≤ s.h ∧ s.h ≤ 10 := by have := H1.out; simp only [inB, Bool.and_eq_true, decide_eq_true_eq] at this; omega
  obtain ⟨hw2a, hw2b⟩ := hw2
  obtain ⟨hh2a, hh2b⟩ := hh2
  obtain ⟨nc, hnc⟩ : ∃ n, s.cells.length = n := ⟨_, rfl⟩
  obtain ⟨nh, hnh⟩ : ∃ n, s.hist.length = n := ⟨_, rfl⟩
  have HNC := Lib.hid hnc
  have HNH := Lib.hid hnh
  rw [hnc, hnh]
  rw [hnc] at hcl
  rw [hnh] at hhl
  clear hnc hnh
  obtain ⟨T, hT⟩ : ∃ T, s.title = T := ⟨_, rfl⟩
  rw [hT] at htl ⊢
  clear hT
  have HB1 : ∀ x, Hid (Below w.heap.size w (w.alloc x)) := fun x => Lib.hid ((Below.refl _ _).alloc (Nat.le_refl _) _)
  go_enter Tryz.func24, Tryz.ntmps24
  try simp only [List.append_eq, List.cons_append, List.nil_append]
  go_wp2_with (first | (go_at_call 25; refine (isSize_c _ _ _).mono ?_; rw [H1.out]; rintro e w' ⟨rfl, rfl⟩) | (go_at_call 31; refine (within_c _ _ _ _).mono ?_; (first | rw [H2.out]); rintro e w' ⟨rfl, rfl⟩))
  go_ret
  exact ⟨rfl, (Below.refl _ _).alloc (Nat.le_refl _) _⟩
theorem isScreen_no3 (s : ScrI) (ac : Option Addr) (cc : Nat) (ah : Option Addr) (dh : Nat) (w : World) (ha : Sl celE 2 w ac s.cells) (hb : Sl strE 1 w ah s.hist) (hcl : s.cells.length ≤ 1048576) (hhl : s.hist.length ≤ 1048576) (htl : s.title.size ≤ 1099511627776) (h1 : (inB s.w 2 24 && inB s.h 2 10) = true) (h2 : inB s.x 0 s.w = true) (hk : inB s.y 0 (s.h - 1) = false) :
    Calls Tryz.prog 24 #[.agg #[.int .i64 s.w, .int .i64 s.h, .int .i64 s.x, .int .i64 s.y, .int .i64 s.look, .int .i64 s.top, .int .i64 s.bot, .int .i64 s.sx, .int .i64 s.sy, .string s.title, .slice ac s.cells.length cc, .slice ah s.hist.length dh]] w fun e w' => e = .returned (.bool false) ∧ Below w.heap.size w w' := by
  have H1 := Lib.hid h1
  have H2 := Lib.hid h2
  have H3 := Lib.hid hk
  have HA := Lib.hid ha
  have HBB := Lib.hid hb
  clear ha hb hk h1 h2
  have hw2 : 2 ≤ s.w ∧ s.w ≤ 24 := by have := H1.out; simp only [inB, Bool.and_eq_true, decide_eq_true_eq] at this; omega
  have hh2 : 2 ≤ s.h ∧ s.h ≤ 10 := by have := H1.out; simp only [inB, Bool.and_eq_true, decide_eq_true_eq] at this; omega
  obtain ⟨hw2a, hw2b⟩ := hw2
  obtain ⟨hh2a, hh2b⟩ := hh2
  obtain ⟨nc, hnc⟩ : ∃ n, s.cells.length = n := ⟨_, rfl⟩
  obtain ⟨nh, hnh⟩ : ∃ n, s.hist.length = n := ⟨_, rfl⟩
  have HNC := Lib.hid hnc
  have HNH := Lib.hid hnh
  rw [hnc, hnh]
  rw [hnc] at hcl
  rw [hnh] at hhl
  clear hnc hnh
  obtain ⟨T, hT⟩ : ∃ T, s.title = T := ⟨_, rfl⟩
  rw [hT] at htl ⊢
  clear hT
  have HB1 : ∀ x, Hid (Below w.heap.size w (w.alloc x)) := fun x => Lib.hid ((Below.refl _ _).alloc (Nat.le_refl _) _)
  go_enter Tryz.func24, Tryz.ntmps24
  try simp only [List.append_eq, List.cons_append, List.nil_append]
  go_wp2_with (first | (go_at_call 25; refine (isSize_c _ _ _).mono ?_; rw [H1.out]; rintro e w' ⟨rfl, rfl⟩) | (go_at_call 31; refine (within_c _ _ _ _).mono ?_; (first | rw [H2.out] | rw [H3.out]); rintro e w' ⟨rfl, rfl⟩))
  go_ret
  exact ⟨rfl, (Below.refl _ _).alloc (Nat.le_refl _) _⟩
theorem isScreen_no4 (s : ScrI) (ac : Option Addr) (cc : Nat) (ah : Option Addr) (dh : Nat) (w : World) (ha : Sl celE 2 w ac s.cells) (hb : Sl strE 1 w ah s.hist) (hcl : s.cells.length ≤ 1048576) (hhl : s.hist.length ≤ 1048576) (htl : s.title.size ≤ 1099511627776) (h1 : (inB s.w 2 24 && inB s.h 2 10) = true) (h2 : inB s.x 0 s.w = true) (h3 : inB s.y 0 (s.h - 1) = true) (hk : inB s.look 0 127 = false) :
    Calls Tryz.prog 24 #[.agg #[.int .i64 s.w, .int .i64 s.h, .int .i64 s.x, .int .i64 s.y, .int .i64 s.look, .int .i64 s.top, .int .i64 s.bot, .int .i64 s.sx, .int .i64 s.sy, .string s.title, .slice ac s.cells.length cc, .slice ah s.hist.length dh]] w fun e w' => e = .returned (.bool false) ∧ Below w.heap.size w w' := by
  have H1 := Lib.hid h1
  have H2 := Lib.hid h2
  have H3 := Lib.hid h3
  have H4 := Lib.hid hk
  have HA := Lib.hid ha
  have HBB := Lib.hid hb
  clear ha hb hk h1 h2 h3
  have hw2 : 2 ≤ s.w ∧ s.w ≤ 24 := by have := H1.out; simp only [inB, Bool.and_eq_true, decide_eq_true_eq] at this; omega
  have hh2 : 2 ≤ s.h ∧ s.h ≤ 10 := by have := H1.out; simp only [inB, Bool.and_eq_true, decide_eq_true_eq] at this; omega
  obtain ⟨hw2a, hw2b⟩ := hw2
  obtain ⟨hh2a, hh2b⟩ := hh2
  obtain ⟨nc, hnc⟩ : ∃ n, s.cells.length = n := ⟨_, rfl⟩
  obtain ⟨nh, hnh⟩ : ∃ n, s.hist.length = n := ⟨_, rfl⟩
  have HNC := Lib.hid hnc
  have HNH := Lib.hid hnh
  rw [hnc, hnh]
  rw [hnc] at hcl
  rw [hnh] at hhl
  clear hnc hnh
  obtain ⟨T, hT⟩ : ∃ T, s.title = T := ⟨_, rfl⟩
  rw [hT] at htl ⊢
  clear hT
  have HB1 : ∀ x, Hid (Below w.heap.size w (w.alloc x)) := fun x => Lib.hid ((Below.refl _ _).alloc (Nat.le_refl _) _)
  go_enter Tryz.func24, Tryz.ntmps24
  try simp only [List.append_eq, List.cons_append, List.nil_append]
  go_wp2_with (first | (go_at_call 25; refine (isSize_c _ _ _).mono ?_; rw [H1.out]; rintro e w' ⟨rfl, rfl⟩) | (go_at_call 31; refine (within_c _ _ _ _).mono ?_; (first | rw [H2.out] | rw [H3.out] | rw [H4.out]); rintro e w' ⟨rfl, rfl⟩))
  go_ret
  exact ⟨rfl, (Below.refl _ _).alloc (Nat.le_refl _) _⟩
theorem isScreen_no5 (s : ScrI) (ac : Option Addr) (cc : Nat) (ah : Option Addr) (dh : Nat) (w : World) (ha : Sl celE 2 w ac s.cells) (hb : Sl strE 1 w ah s.hist) (hcl : s.cells.length ≤ 1048576) (hhl : s.hist.length ≤ 1048576) (htl : s.title.size ≤ 1099511627776) (h1 : (inB s.w 2 24 && inB s.h 2 10) = true) (h2 : inB s.x 0 s.w = true) (h3 : inB s.y 0 (s.h - 1) = true) (h4 : inB s.look 0 127 = true) (hk : inB s.top 0 (s.h - 2) = false) :
    Calls Tryz.prog 24 #[.agg #[.int .i64 s.w, .int .i64 s.h, .int .i64 s.x, .int .i64 s.y, .int .i64 s.look, .int .i64 s.top, .int .i64 s.bot, .int .i64 s.sx, .int .i64 s.sy, .string s.title, .slice ac s.cells.length cc, .slice ah s.hist.length dh]] w fun e w' => e = .returned (.bool false) ∧ Below w.heap.size w w' := by
  have H1 := Lib.hid h1
  have H2 := Lib.hid h2
  have H3 := Lib.hid h3
  have H4 := Lib.hid h4
  have H5 := Lib.hid hk
  have HA := Lib.hid ha
  have HBB := Lib.hid hb
  clear ha hb hk h1 h2 h3 h4
  have hw2 : 2 ≤ s.w ∧ s.w ≤ 24 := by have := H1.out; simp only [inB, Bool.and_eq_true, decide_eq_true_eq] at this; omega
  have hh2 : 2 ≤ s.h ∧ s.h ≤ 10 := by have := H1.out; simp only [inB, Bool.and_eq_true, decide_eq_true_eq] at this; omega
  obtain ⟨hw2a, hw2b⟩ := hw2
  obtain ⟨hh2a, hh2b⟩ := hh2
  obtain ⟨nc, hnc⟩ : ∃ n, s.cells.length = n := ⟨_, rfl⟩
  obtain ⟨nh, hnh⟩ : ∃ n, s.hist.length = n := ⟨_, rfl⟩
  have HNC := Lib.hid hnc
  have HNH := Lib.hid hnh
  rw [hnc, hnh]
  rw [hnc] at hcl
  rw [hnh] at hhl
  clear hnc hnh
  obtain ⟨T, hT⟩ : ∃ T, s.title = T := ⟨_, rfl⟩
  rw [hT] at htl ⊢
  clear hT
  have HB1 : ∀ x, Hid (Below w.heap.size w (w.alloc x)) := fun x => Lib.hid ((Below.refl _ _).alloc (Nat.le_refl _) _)
  go_enter Tryz.func24, Tryz.ntmps24
  try simp only [List.append_eq, List.cons_append, List.nil_append]
  go_wp2_with (first | (go_at_call 25; refine (isSize_c _ _ _).mono ?_; rw [H1.out]; rintro e w' ⟨rfl, rfl⟩) | (go_at_call 31; refine (within_c _ _ _ _).mono ?_; (first | rw [H2.out] | rw [H3.out] | rw [H4.out] | rw [H5.out]); rintro e w' ⟨rfl, rfl⟩))
  go_ret
  exact ⟨rfl, (Below.refl _ _).alloc (Nat.le_refl _) _⟩
theorem isScreen_no6 (s : ScrI) (ac : Option Addr) (cc : Nat) (ah : Option Addr) (dh : Nat) (w : World) (ha : Sl celE 2 w ac s.cells) (hb : Sl strE 1 w ah s.hist) (hcl : s.cells.length ≤ 1048576) (hhl : s.hist.length ≤ 1048576) (htl : s.title.size ≤ 1099511627776) (h1 : (inB s.w 2 24 && inB s.h 2 10) = true) (h2 : inB s.x 0 s.w = true) (h3 : inB s.y 0 (s.h - 1) = true) (h4 : inB s.look 0 127 = true) (h5 : inB s.top 0 (s.h - 2) = true) (hk : inB s.bot (s.top + 1) (s.h - 1) = false) :
    Calls Tryz.prog 24 #[.agg #[.int .i64 s.w, .int .i64 s.h, .int .i64 s.x, .int .i64 s.y, .int .i64 s.look, .int .i64 s.top, .int .i64 s.bot, .int .i64 s.sx, .int .i64 s.sy, .string s.title, .slice ac s.cells.length cc, .slice ah s.hist.length dh]] w fun e w' => e = .returned (.bool false) ∧ Below w.heap.size w w' := by
  have H1 := Lib.hid h1
  have H2 := Lib.hid h2
  have H3 := Lib.hid h3
  have H4 := Lib.hid h4
  have H5 := Lib.hid h5
  have H6 := Lib.hid hk
  have HA := Lib.hid ha
  have HBB := Lib.hid hb
  clear ha hb hk h1 h2 h3 h4 h5
  have hw2 : 2 ≤ s.w ∧ s.w ≤ 24 := by have := H1.out; simp only [inB, Bool.and_eq_true, decide_eq_true_eq] at this; omega
  have hh2 : 2 ≤ s.h ∧ s.h ≤ 10 := by have := H1.out; simp only [inB, Bool.and_eq_true, decide_eq_true_eq] at this; omega
  obtain ⟨hw2a, hw2b⟩ := hw2
  obtain ⟨hh2a, hh2b⟩ := hh2
  have ht2 : 0 ≤ s.top ∧ s.top ≤ s.h - 2 := by have := H5.out; simp only [inB, Bool.and_eq_true, decide_eq_true_eq] at this; omega
  obtain ⟨ht2a, ht2b⟩ := ht2
  obtain ⟨nc, hnc⟩ : ∃ n, s.cells.length = n := ⟨_, rfl⟩
  obtain ⟨nh, hnh⟩ : ∃ n, s.hist.length = n := ⟨_, rfl⟩
  have HNC := Lib.hid hnc
  have HNH := Lib.hid hnh
  rw [hnc, hnh]
  rw [hnc] at hcl
  rw [hnh] at hhl
  clear hnc hnh
  obtain ⟨T, hT⟩ : ∃ T, s.title = T := ⟨_, rfl⟩
  rw [hT] at htl ⊢
  clear hT
  have HB1 : ∀ x, Hid (Below w.heap.size w (w.alloc x)) := fun x => Lib.hid ((Below.refl _ _).alloc (Nat.le_refl _) _)
  go_enter Tryz.func24, Tryz.ntmps24
  try simp only [List.append_eq, List.cons_append, List.nil_append]
  go_wp2_with (first | (go_at_call 25; refine (isSize_c _ _ _).mono ?_; rw [H1.out]; rintro e w' ⟨rfl, rfl⟩) | (go_at_call 31; refine (within_c _ _ _ _).mono ?_; (first | rw [H2.out] | rw [H3.out] | rw [H4.out] | rw [H5.out] | rw [H6.out]); rintro e w' ⟨rfl, rfl⟩))
  go_ret
  exact ⟨rfl, (Below.refl _ _).alloc (Nat.le_refl _) _⟩
theorem isScreen_no7 (s : ScrI) (ac : Option Addr) (cc : Nat) (ah : Option Addr) (dh : Nat) (w : World) (ha : Sl celE 2 w ac s.cells) (hb : Sl strE 1 w ah s.hist) (hcl : s.cells.length ≤ 1048576) (hhl : s.hist.length ≤ 1048576) (htl : s.title.size ≤ 1099511627776) (h1 : (inB s.w 2 24 && inB s.h 2 10) = true) (h2 : inB s.x 0 s.w = true) (h3 : inB s.y 0 (s.h - 1) = true) (h4 : inB s.look 0 127 = true) (h5 : inB s.top 0 (s.h - 2) = true) (h6 : inB s.bot (s.top + 1) (s.h - 1) = true) (hk : inB s.sx 0 s.w = false) :
    Calls Tryz.prog 24 #[.agg #[.int .i64 s.w, .int .i64 s.h, .int .i64 s.x, .int .i64 s.y, .int .i64 s.look, .int .i64 s.top, .int .i64 s.bot, .int .i64 s.sx, .int .i64 s.sy, .string s.title, .slice ac s.cells.length cc, .slice ah s.hist.length dh]] w fun e w' => e = .returned (.bool false) ∧ Below w.heap.size w w' := by
  have H1 := Lib.hid h1
  have H2 := Lib.hid h2
  have H3 := Lib.hid h3
  have H4 := Lib.hid h4
  have H5 := Lib.hid h5
  have H6 := Lib.hid h6
  have H7 := Lib.hid hk
  have HA := Lib.hid ha
  have HBB := Lib.hid hb
  clear ha hb hk h1 h2 h3 h4 h5 h6
  have hw2 : 2 ≤ s.w ∧ s.w ≤ 24 := by have := H1.out; simp only [inB, Bool.and_eq_true, decide_eq_true_eq] at this; omega
  have hh2 : 2 ≤ s.h ∧ s.h ≤ 10 := by have := H1.out; simp only [inB, Bool.and_eq_true, decide_eq_true_eq] at this; omega
  obtain ⟨hw2a, hw2b⟩ := hw2
  obtain ⟨hh2a, hh2b⟩ := hh2
  have ht2 : 0 ≤ s.top ∧ s.top ≤ s.h - 2 := by have := H5.out; simp only [inB, Bool.and_eq_true, decide_eq_true_eq] at this; omega
  obtain ⟨ht2a, ht2b⟩ := ht2
  obtain ⟨nc, hnc⟩ : ∃ n, s.cells.length = n := ⟨_, rfl⟩
  obtain ⟨nh, hnh⟩ : ∃ n, s.hist.length = n := ⟨_, rfl⟩
  have HNC := Lib.hid hnc
  have HNH := Lib.hid hnh
  rw [hnc, hnh]
  rw [hnc] at hcl
  rw [hnh] at hhl
  clear hnc hnh
  obtain ⟨T, hT⟩ : ∃ T, s.title = T := ⟨_, rfl⟩
  rw [hT] at htl ⊢
  clear hT
  have HB1 : ∀ x, Hid (Below w.heap.size w (w.alloc x)) := fun x => Lib.hid ((Below.refl _ _).alloc (Nat.le_refl _) _)
  go_enter Tryz.func24, Tryz.ntmps24
  try simp only [List.append_eq, List.cons_append, List.nil_append]
  go_wp2_with (first | (go_at_call 25; refine (isSize_c _ _ _).mono ?_; rw [H1.out]; rintro e w' ⟨rfl, rfl⟩) | (go_at_call 31; refine (within_c _ _ _ _).mono ?_; (first | rw [H2.out] | rw [H3.out] | rw [H4.out] | rw [H5.out] | rw [H6.out] | rw [H7.out]); rintro e w' ⟨rfl, rfl⟩))
  go_ret
  exact ⟨rfl, (Below.refl _ _).alloc (Nat.le_refl _) _⟩
theorem isScreen_no8 (s : ScrI) (ac : Option Addr) (cc : Nat) (ah : Option Addr) (dh : Nat) (w : World) (ha : Sl celE 2 w ac s.cells) (hb : Sl strE 1 w ah s.hist) (hcl : s.cells.length ≤ 1048576) (hhl : s.hist.length ≤ 1048576) (htl : s.title.size ≤ 1099511627776) (h1 : (inB s.w 2 24 && inB s.h 2 10) = true) (h2 : inB s.x 0 s.w = true) (h3 : inB s.y 0 (s.h - 1) = true) (h4 : inB s.look 0 127 = true) (h5 : inB s.top 0 (s.h - 2) = true) (h6 : inB s.bot (s.top + 1) (s.h - 1) = true) (h7 : inB s.sx 0 s.w = true) (hk : inB s.sy 0 (s.h - 1) = false) :
    Calls Tryz.prog 24 #[.agg #[.int .i64 s.w, .int .i64 s.h, .int .i64 s.x, .int .i64 s.y, .int .i64 s.look, .int .i64 s.top, .int .i64 s.bot, .int .i64 s.sx, .int .i64 s.sy, .string s.title, .slice ac s.cells.length cc, .slice ah s.hist.length dh]] w fun e w' => e = .returned (.bool false) ∧ Below w.heap.size w w' := by
  have H1 := Lib.hid h1
  have H2 := Lib.hid h2
  have H3 := Lib.hid h3
  have H4 := Lib.hid h4
  have H5 := Lib.hid h5
  have H6 := Lib.hid h6
  have H7 := Lib.hid h7
  have H8 := Lib.hid hk
  have HA := Lib.hid ha
  have HBB := Lib.hid hb
  clear ha hb hk h1 h2 h3 h4 h5 h6 h7
  have hw2 : 2 ≤ s.w ∧ s.w ≤ 24 := by have := H1.out; simp only [inB, Bool.and_eq_true, decide_eq_true_eq] at this; omega
  have hh2 : 2 ≤ s.h ∧ s.h ≤ 10 := by have := H1.out; simp only [inB, Bool.and_eq_true, decide_eq_true_eq] at this; omega
  obtain ⟨hw2a, hw2b⟩ := hw2
  obtain ⟨hh2a, hh2b⟩ := hh2
  have ht2 : 0 ≤ s.top ∧ s.top ≤ s.h - 2 := by have := H5.out; simp only [inB, Bool.and_eq_true, decide_eq_true_eq] at this; omega
  obtain ⟨ht2a, ht2b⟩ := ht2
  obtain ⟨nc, hnc⟩ : ∃ n, s.cells.length = n := ⟨_, rfl⟩
  obtain ⟨nh, hnh⟩ : ∃ n, s.hist.length = n := ⟨_, rfl⟩
  have HNC := Lib.hid hnc
  have HNH := Lib.hid hnh
  rw [hnc, hnh]
  rw [hnc] at hcl
  rw [hnh] at hhl
  clear hnc hnh
  obtain ⟨T, hT⟩ : ∃ T, s.title = T := ⟨_, rfl⟩
  rw [hT] at htl ⊢
  clear hT
  have HB1 : ∀ x, Hid (Below w.heap.size w (w.alloc x)) := fun x => Lib.hid ((Below.refl _ _).alloc (Nat.le_refl _) _)
  go_enter Tryz.func24, Tryz.ntmps24
  try simp only [List.append_eq, List.cons_append, List.nil_append]
  go_wp2_with (first | (go_at_call 25; refine (isSize_c _ _ _).mono ?_; rw [H1.out]; rintro e w' ⟨rfl, rfl⟩) | (go_at_call 31; refine (within_c _ _ _ _).mono ?_; (first | rw [H2.out] | rw [H3.out] | rw [H4.out] | rw [H5.out] | rw [H6.out] | rw [H7.out] | rw [H8.out]); rintro e w' ⟨rfl, rfl⟩))
  go_ret
  exact ⟨rfl, (Below.refl _ _).alloc (Nat.le_refl _) _⟩
theorem isScreen_no9 (s : ScrI) (ac : Option Addr) (cc : Nat) (ah : Option Addr) (dh : Nat) (w : World) (ha : Sl celE 2 w ac s.cells) (hb : Sl strE 1 w ah s.hist) (hcl : s.cells.length ≤ 1048576) (hhl : s.hist.length ≤ 1048576) (htl : s.title.size ≤ 1099511627776) (h1 : (inB s.w 2 24 && inB s.h 2 10) = true) (h2 : inB s.x 0 s.w = true) (h3 : inB s.y 0 (s.h - 1) = true) (h4 : inB s.look 0 127 = true) (h5 : inB s.top 0 (s.h - 2) = true) (h6 : inB s.bot (s.top + 1) (s.h - 1) = true) (h7 : inB s.sx 0 s.w = true) (h8 : inB s.sy 0 (s.h - 1) = true) (hk : titB s.title = false) :
    Calls Tryz.prog 24 #[.agg #[.int .i64 s.w, .int .i64 s.h, .int .i64 s.x, .int .i64 s.y, .int .i64 s.look, .int .i64 s.top, .int .i64 s.bot, .int .i64 s.sx, .int .i64 s.sy, .string s.title, .slice ac s.cells.length cc, .slice ah s.hist.length dh]] w fun e w' => e = .returned (.bool false) ∧ Below w.heap.size w w' := by
  have H1 := Lib.hid h1
  have H2 := Lib.hid h2
  have H3 := Lib.hid h3
  have H4 := Lib.hid h4
  have H5 := Lib.hid h5
  have H6 := Lib.hid h6
  have H7 := Lib.hid h7
  have H8 := Lib.hid h8
  have H9 := Lib.hid hk
  have HA := Lib.hid ha
  have HBB := Lib.hid hb
  clear ha hb hk h1 h2 h3 h4 h5 h6 h7 h8
  have hw2 : 2 ≤ s.w ∧ s.w ≤ 24 := by have := H1.out; simp only [inB, Bool.and_eq_true, decide_eq_true_eq] at this; omega
  have hh2 : 2 ≤ s.h ∧ s.h ≤ 10 := by have := H1.out; simp only [inB, Bool.and_eq_true, decide_eq_true_eq] at this; omega
  obtain ⟨hw2a, hw2b⟩ := hw2
  obtain ⟨hh2a, hh2b⟩ := hh2
  have ht2 : 0 ≤ s.top ∧ s.top ≤ s.h - 2 := by have := H5.out; simp only [inB, Bool.and_eq_true, decide_eq_true_eq] at this; omega
  obtain ⟨ht2a, ht2b⟩ := ht2
  obtain ⟨nc, hnc⟩ : ∃ n, s.cells.length = n := ⟨_, rfl⟩
  obtain ⟨nh, hnh⟩ : ∃ n, s.hist.length = n := ⟨_, rfl⟩
  have HNC := Lib.hid hnc
  have HNH := Lib.hid hnh
  rw [hnc, hnh]
  rw [hnc] at hcl
  rw [hnh] at hhl
  clear hnc hnh
  obtain ⟨T, hT⟩ : ∃ T, s.title = T := ⟨_, rfl⟩
  rw [hT] at htl ⊢
  rw [hT] at H9
  clear hT
  have HB1 : ∀ x, Hid (Below w.heap.size w (w.alloc x)) := fun x => Lib.hid ((Below.refl _ _).alloc (Nat.le_refl _) _)
  go_enter Tryz.func24, Tryz.ntmps24
  try simp only [List.append_eq, List.cons_append, List.nil_append]
  go_wp2_with (first | (go_at_call 25; refine (isSize_c _ _ _).mono ?_; rw [H1.out]; rintro e w' ⟨rfl, rfl⟩) | (go_at_call 31; refine (within_c _ _ _ _).mono ?_; (first | rw [H2.out] | rw [H3.out] | rw [H4.out] | rw [H5.out] | rw [H6.out] | rw [H7.out] | rw [H8.out]); rintro e w' ⟨rfl, rfl⟩) | (go_at_call 52; refine (isTitle_c T _ htl).mono ?_; rw [H9.out]; rintro e w' ⟨rfl, rfl⟩))
  go_ret
  exact ⟨rfl, (Below.refl _ _).alloc (Nat.le_refl _) _⟩
theorem isScreen_no10 (s : ScrI) (ac : Option Addr) (cc : Nat) (ah : Option Addr) (dh : Nat) (w : World) (ha : Sl celE 2 w ac s.cells) (hb : Sl strE 1 w ah s.hist) (hcl : s.cells.length ≤ 1048576) (hhl : s.hist.length ≤ 1048576) (htl : s.title.size ≤ 1099511627776) (h1 : (inB s.w 2 24 && inB s.h 2 10) = true) (h2 : inB s.x 0 s.w = true) (h3 : inB s.y 0 (s.h - 1) = true) (h4 : inB s.look 0 127 = true) (h5 : inB s.top 0 (s.h - 2) = true) (h6 : inB s.bot (s.top + 1) (s.h - 1) = true) (h7 : inB s.sx 0 s.w = true) (h8 : inB s.sy 0 (s.h - 1) = true) (h9 : titB s.title = true) (hk : decide (s.hist.length ≤ 6) = false) :
    Calls Tryz.prog 24 #[.agg #[.int .i64 s.w, .int .i64 s.h, .int .i64 s.x, .int .i64 s.y, .int .i64 s.look, .int .i64 s.top, .int .i64 s.bot, .int .i64 s.sx, .int .i64 s.sy, .string s.title, .slice ac s.cells.length cc, .slice ah s.hist.length dh]] w fun e w' => e = .returned (.bool false) ∧ Below w.heap.size w w' := by
  have H1 := Lib.hid h1
  have H2 := Lib.hid h2
  have H3 := Lib.hid h3
  have H4 := Lib.hid h4
  have H5 := Lib.hid h5
  have H6 := Lib.hid h6
  have H7 := Lib.hid h7
  have H8 := Lib.hid h8
  have H9 := Lib.hid h9
  have H10 := Lib.hid hk
  have HA := Lib.hid ha
  have HBB := Lib.hid hb
  clear ha hb hk h1 h2 h3 h4 h5 h6 h7 h8 h9
  have hw2 : 2 ≤ s.w ∧ s.w ≤ 24 := by have := H1.out; simp only [inB, Bool.and_eq_true, decide_eq_true_eq] at this; omega
  have hh2 : 2 ≤ s.h ∧ s.h ≤ 10 := by have := H1.out; simp only [inB, Bool.and_eq_true, decide_eq_true_eq] at this; omega
  obtain ⟨hw2a, hw2b⟩ := hw2
  obtain ⟨hh2a, hh2b⟩ := hh2
  have ht2 : 0 ≤ s.top ∧ s.top ≤ s.h - 2 := by have := H5.out; simp only [inB, Bool.and_eq_true, decide_eq_true_eq] at this; omega
  obtain ⟨ht2a, ht2b⟩ := ht2
  obtain ⟨nc, hnc⟩ : ∃ n, s.cells.length = n := ⟨_, rfl⟩
  obtain ⟨nh, hnh⟩ : ∃ n, s.hist.length = n := ⟨_, rfl⟩
  have HNC := Lib.hid hnc
  have HNH := Lib.hid hnh
  rw [hnc, hnh]
  rw [hnc] at hcl
  rw [hnh] at hhl
  clear hnc hnh
  obtain ⟨T, hT⟩ : ∃ T, s.title = T := ⟨_, rfl⟩
  rw [hT] at htl ⊢
  rw [hT] at H9
  clear hT
  have h6 : ¬ (nh : Int) ≤ 6 := by have := H10.out; rw [HNH.out] at this; simp only [decide_eq_false_iff_not] at this; omega
  have HB1 : ∀ x, Hid (Below w.heap.size w (w.alloc x)) := fun x => Lib.hid ((Below.refl _ _).alloc (Nat.le_refl _) _)
  go_enter Tryz.func24, Tryz.ntmps24
  try simp only [List.append_eq, List.cons_append, List.nil_append]
  go_wp2_with (first | (go_at_call 25; refine (isSize_c _ _ _).mono ?_; rw [H1.out]; rintro e w' ⟨rfl, rfl⟩) | (go_at_call 31; refine (within_c _ _ _ _).mono ?_; (first | rw [H2.out] | rw [H3.out] | rw [H4.out] | rw [H5.out] | rw [H6.out] | rw [H7.out] | rw [H8.out]); rintro e w' ⟨rfl, rfl⟩) | (go_at_call 52; refine (isTitle_c T _ htl).mono ?_; rw [H9.out]; rintro e w' ⟨rfl, rfl⟩))
  go_ret
  exact ⟨rfl, (Below.refl _ _).alloc (Nat.le_refl _) _⟩
theorem isScreen_no11 (s : ScrI) (ac : Option Addr) (cc : Nat) (ah : Option Addr) (dh : Nat) (w : World) (ha : Sl celE 2 w ac s.cells) (hb : Sl strE 1 w ah s.hist) (hcl : s.cells.length ≤ 1048576) (hhl : s.hist.length ≤ 1048576) (htl : s.title.size ≤ 1099511627776) (h1 : (inB s.w 2 24 && inB s.h 2 10) = true) (h2 : inB s.x 0 s.w = true) (h3 : inB s.y 0 (s.h - 1) = true) (h4 : inB s.look 0 127 = true) (h5 : inB s.top 0 (s.h - 2) = true) (h6 : inB s.bot (s.top + 1) (s.h - 1) = true) (h7 : inB s.sx 0 s.w = true) (h8 : inB s.sy 0 (s.h - 1) = true) (h9 : titB s.title = true) (h10 : decide (s.hist.length ≤ 6) = true) (hk : decide ((s.cells.length : Int) = s.w * s.h) = false) :
    Calls Tryz.prog 24 #[.agg #[.int .i64 s.w, .int .i64 s.h, .int .i64 s.x, .int .i64 s.y, .int .i64 s.look, .int .i64 s.top, .int .i64 s.bot, .int .i64 s.sx, .int .i64 s.sy, .string s.title, .slice ac s.cells.length cc, .slice ah s.hist.length dh]] w fun e w' => e = .returned (.bool false) ∧ Below w.heap.size w w' := by
  have H1 := Lib.hid h1
  have H2 := Lib.hid h2
  have H3 := Lib.hid h3
  have H4 := Lib.hid h4
  have H5 := Lib.hid h5
  have H6 := Lib.hid h6
  have H7 := Lib.hid h7
  have H8 := Lib.hid h8
  have H9 := Lib.hid h9
  have H10 := Lib.hid h10
  have H11 := Lib.hid hk
  have HA := Lib.hid ha
  have HBB := Lib.hid hb
  clear ha hb hk h1 h2 h3 h4 h5 h6 h7 h8 h9 h10
  have hw2 : 2 ≤ s.w ∧ s.w ≤ 24 := by have := H1.out; simp only [inB, Bool.and_eq_true, decide_eq_true_eq] at this; omega
  have hh2 : 2 ≤ s.h ∧ s.h ≤ 10 := by have := H1.out; simp only [inB, Bool.and_eq_true, decide_eq_true_eq] at this; omega
  obtain ⟨hw2a, hw2b⟩ := hw2
  obtain ⟨hh2a, hh2b⟩ := hh2
  have ht2 : 0 ≤ s.top ∧ s.top ≤ s.h - 2 := by have := H5.out; simp only [inB, Bool.and_eq_true, decide_eq_true_eq] at this; omega
  obtain ⟨ht2a, ht2b⟩ := ht2
  obtain ⟨pr, hpr⟩ : ∃ p, s.w * s.h = p := ⟨_, rfl⟩
  have hpr0 : 0 ≤ pr := by rw [← hpr]; exact Int.mul_nonneg (by omega) (by omega)
  have hpr1 : pr ≤ 240 := by rw [← hpr]; exact Int.le_trans (Int.mul_le_mul_of_nonneg_right hw2b (by omega)) (by omega)
  obtain ⟨nc, hnc⟩ : ∃ n, s.cells.length = n := ⟨_, rfl⟩
  obtain ⟨nh, hnh⟩ : ∃ n, s.hist.length = n := ⟨_, rfl⟩
  have HNC := Lib.hid hnc
  have HNH := Lib.hid hnh
  rw [hnc, hnh]
  rw [hnc] at hcl
  rw [hnh] at hhl
  clear hnc hnh
  obtain ⟨T, hT⟩ : ∃ T, s.title = T := ⟨_, rfl⟩
  rw [hT] at htl ⊢
  rw [hT] at H9
  clear hT
  have h6 : (nh : Int) ≤ 6 := by have := H10.out; rw [HNH.out] at this; simp only [decide_eq_true_eq] at this; omega
  have hq : ((nc : Int) == pr) = false := by have := H11.out; rw [HNC.out, hpr] at this; simp only [decide_eq_false_iff_not] at this; simp [this]
  have HB1 : ∀ x, Hid (Below w.heap.size w (w.alloc x)) := fun x => Lib.hid ((Below.refl _ _).alloc (Nat.le_refl _) _)
  go_enter Tryz.func24, Tryz.ntmps24
  try simp only [List.append_eq, List.cons_append, List.nil_append]
  go_wp2_with (first | (go_at_call 25; refine (isSize_c _ _ _).mono ?_; rw [H1.out]; rintro e w' ⟨rfl, rfl⟩) | (go_at_call 31; refine (within_c _ _ _ _).mono ?_; (first | rw [H2.out] | rw [H3.out] | rw [H4.out] | rw [H5.out] | rw [H6.out] | rw [H7.out] | rw [H8.out]); rintro e w' ⟨rfl, rfl⟩) | (go_at_call 52; refine (isTitle_c T _ htl).mono ?_; rw [H9.out]; rintro e w' ⟨rfl, rfl⟩))
  go_ret
  exact ⟨rfl, (Below.refl _ _).alloc (Nat.le_refl _) _⟩
theorem isScreen_no12 (s : ScrI) (ac : Option Addr) (cc : Nat) (ah : Option Addr) (dh : Nat) (w : World) (ha : Sl celE 2 w ac s.cells) (hb : Sl strE 1 w ah s.hist) (hcl : s.cells.length ≤ 1048576) (hhl : s.hist.length ≤ 1048576) (htl : s.title.size ≤ 1099511627776) (h1 : (inB s.w 2 24 && inB s.h 2 10) = true) (h2 : inB s.x 0 s.w = true) (h3 : inB s.y 0 (s.h - 1) = true) (h4 : inB s.look 0 127 = true) (h5 : inB s.top 0 (s.h - 2) = true) (h6 : inB s.bot (s.top + 1) (s.h - 1) = true) (h7 : inB s.sx 0 s.w = true) (h8 : inB s.sy 0 (s.h - 1) = true) (h9 : titB s.title = true) (h10 : decide (s.hist.length ≤ 6) = true) (h11 : decide ((s.cells.length : Int) = s.w * s.h) = true) (hk : (!s.hist.any bigH) = false) :
    Calls Tryz.prog 24 #[.agg #[.int .i64 s.w, .int .i64 s.h, .int .i64 s.x, .int .i64 s.y, .int .i64 s.look, .int .i64 s.top, .int .i64 s.bot, .int .i64 s.sx, .int .i64 s.sy, .string s.title, .slice ac s.cells.length cc, .slice ah s.hist.length dh]] w fun e w' => e = .returned (.bool false) ∧ Below w.heap.size w w' := by
  have H1 := Lib.hid h1
  have H2 := Lib.hid h2
  have H3 := Lib.hid h3
  have H4 := Lib.hid h4
  have H5 := Lib.hid h5
  have H6 := Lib.hid h6
  have H7 := Lib.hid h7
  have H8 := Lib.hid h8
  have H9 := Lib.hid h9
  have H10 := Lib.hid h10
  have H11 := Lib.hid h11
  have H12 := Lib.hid hk
  have HA := Lib.hid ha
  have HBB := Lib.hid hb
  clear ha hb hk h1 h2 h3 h4 h5 h6 h7 h8 h9 h10 h11
  have hw2 : 2 ≤ s.w ∧ s.w ≤ 24 := by have := H1.out; simp only [inB, Bool.and_eq_true, decide_eq_true_eq] at this; omega
  have hh2 : 2 ≤ s.h ∧ s.h ≤ 10 := by have := H1.out; simp only [inB, Bool.and_eq_true, decide_eq_true_eq] at this; omega
  obtain ⟨hw2a, hw2b⟩ := hw2
  obtain ⟨hh2a, hh2b⟩ := hh2
  have ht2 : 0 ≤ s.top ∧ s.top ≤ s.h - 2 := by have := H5.out; simp only [inB, Bool.and_eq_true, decide_eq_true_eq] at this; omega
  obtain ⟨ht2a, ht2b⟩ := ht2
  obtain ⟨pr, hpr⟩ : ∃ p, s.w * s.h = p := ⟨_, rfl⟩
  have hpr0 : 0 ≤ pr := by rw [← hpr]; exact Int.mul_nonneg (by omega) (by omega)
  have hpr1 : pr ≤ 240 := by rw [← hpr]; exact Int.le_trans (Int.mul_le_mul_of_nonneg_right hw2b (by omega)) (by omega)
  have HCH : Hid (∀ W, Below w.heap.size w W → Calls Tryz.prog 53 #[.slice ah s.hist.length dh, .func (.func 54) #[] #[]] W fun e w' => e = .returned (.bool true) ∧ W = w') := Lib.hid (fun W hB => by
    have := H12.out
    simp only [Bool.not_eq_true', Bool.not_eq_false'] at this
    rw [← this]
    exact contains_impl_isScreen_1 ah dh s.hist W (HBB.out.keep hB) (by omega) (fun _ _ => trivial))
  obtain ⟨nc, hnc⟩ : ∃ n, s.cells.length = n := ⟨_, rfl⟩
  obtain ⟨nh, hnh⟩ : ∃ n, s.hist.length = n := ⟨_, rfl⟩
  have HNC := Lib.hid hnc
  have HNH := Lib.hid hnh
  rw [hnh] at HCH
  rw [hnc, hnh]
  rw [hnc] at hcl
  rw [hnh] at hhl
  clear hnc hnh
  obtain ⟨T, hT⟩ : ∃ T, s.title = T := ⟨_, rfl⟩
  rw [hT] at htl ⊢
  rw [hT] at H9
  clear hT
  have h6 : (nh : Int) ≤ 6 := by have := H10.out; rw [HNH.out] at this; simp only [decide_eq_true_eq] at this; omega
  have hq : ((nc : Int) == pr) = true := by have := H11.out; rw [HNC.out, hpr] at this; simp only [decide_eq_true_eq] at this; simp [this]
  have HB1 : ∀ x, Hid (Below w.heap.size w (w.alloc x)) := fun x => Lib.hid ((Below.refl _ _).alloc (Nat.le_refl _) _)
  go_enter Tryz.func24, Tryz.ntmps24
  try simp only [List.append_eq, List.cons_append, List.nil_append]
  go_wp2_with (first | (go_at_call 25; refine (isSize_c _ _ _).mono ?_; rw [H1.out]; rintro e w' ⟨rfl, rfl⟩) | (go_at_call 31; refine (within_c _ _ _ _).mono ?_; (first | rw [H2.out] | rw [H3.out] | rw [H4.out] | rw [H5.out] | rw [H6.out] | rw [H7.out] | rw [H8.out]); rintro e w' ⟨rfl, rfl⟩) | (go_at_call 52; refine (isTitle_c T _ htl).mono ?_; rw [H9.out]; rintro e w' ⟨rfl, rfl⟩) | (go_at_call 53; refine (HCH.out _ (HB1 _).out).mono ?_; rintro e w' ⟨rfl, rfl⟩))
  go_ret
  exact ⟨rfl, (Below.refl _ _).alloc (Nat.le_refl _) _⟩
theorem isScreen_no13 (s : ScrI) (ac : Option Addr) (cc : Nat) (ah : Option Addr) (dh : Nat) (w : World) (ha : Sl celE 2 w ac s.cells) (hb : Sl strE 1 w ah s.hist) (hcl : s.cells.length ≤ 1048576) (hhl : s.hist.length ≤ 1048576) (htl : s.title.size ≤ 1099511627776) (h1 : (inB s.w 2 24 && inB s.h 2 10) = true) (h2 : inB s.x 0 s.w = true) (h3 : inB s.y 0 (s.h - 1) = true) (h4 : inB s.look 0 127 = true) (h5 : inB s.top 0 (s.h - 2) = true) (h6 : inB s.bot (s.top + 1) (s.h - 1) = true) (h7 : inB s.sx 0 s.w = true) (h8 : inB s.sy 0 (s.h - 1) = true) (h9 : titB s.title = true) (h10 : decide (s.hist.length ≤ 6) = true) (h11 : decide ((s.cells.length : Int) = s.w * s.h) = true) (h12 : (!s.hist.any bigH) = true) (hk : (!s.cells.any ncB) = false) :
    Calls Tryz.prog 24 #[.agg #[.int .i64 s.w, .int .i64 s.h, .int .i64 s.x, .int .i64 s.y, .int .i64 s.look, .int .i64 s.top, .int .i64 s.bot, .int .i64 s.sx, .int .i64 s.sy, .string s.title, .slice ac s.cells.length cc, .slice ah s.hist.length dh]] w fun e w' => e = .returned (.bool false) ∧ Below w.heap.size w w' := by
  have H1 := Lib.hid h1
  have H2 := Lib.hid h2
  have H3 := Lib.hid h3
  have H4 := Lib.hid h4
  have H5 := Lib.hid h5
  have H6 := Lib.hid h6
  have H7 := Lib.hid h7
  have H8 := Lib.hid h8
  have H9 := Lib.hid h9
  have H10 := Lib.hid h10
  have H11 := Lib.hid h11
  have H12 := Lib.hid h12
  have H13 := Lib.hid hk
  have HA := Lib.hid ha
  have HBB := Lib.hid hb
  clear ha hb hk h1 h2 h3 h4 h5 h6 h7 h8 h9 h10 h11 h12
  have hw2 : 2 ≤ s.w ∧ s.w ≤ 24 := by have := H1.out; simp only [inB, Bool.and_eq_true, decide_eq_true_eq] at this; omega
  have hh2 : 2 ≤ s.h ∧ s.h ≤ 10 := by have := H1.out; simp only [inB, Bool.and_eq_true, decide_eq_true_eq] at this; omega
  obtain ⟨hw2a, hw2b⟩ := hw2
  obtain ⟨hh2a, hh2b⟩ := hh2
  have ht2 : 0 ≤ s.top ∧ s.top ≤ s.h - 2 := by have := H5.out; simp only [inB, Bool.and_eq_true, decide_eq_true_eq] at this; omega
  obtain ⟨ht2a, ht2b⟩ := ht2
  obtain ⟨pr, hpr⟩ : ∃ p, s.w * s.h = p := ⟨_, rfl⟩
  have hpr0 : 0 ≤ pr := by rw [← hpr]; exact Int.mul_nonneg (by omega) (by omega)
  have hpr1 : pr ≤ 240 := by rw [← hpr]; exact Int.le_trans (Int.mul_le_mul_of_nonneg_right hw2b (by omega)) (by omega)
  have HCH : Hid (∀ W, Below w.heap.size w W → Calls Tryz.prog 53 #[.slice ah s.hist.length dh, .func (.func 54) #[] #[]] W fun e w' => e = .returned (.bool false) ∧ W = w') := Lib.hid (fun W hB => by
    have := H12.out
    simp only [Bool.not_eq_true', Bool.not_eq_false'] at this
    rw [← this]
    exact contains_impl_isScreen_1 ah dh s.hist W (HBB.out.keep hB) (by omega) (fun _ _ => trivial))
  have HCC : Hid (∀ W, Below w.heap.size w W → Calls Tryz.prog 55 #[.slice ac s.cells.length cc, .func (.func 56) #[] #[]] W fun e w' => e = .returned (.bool true) ∧ Below W.heap.size W w') := Lib.hid (fun W hB => by
    have := H13.out
    simp only [Bool.not_eq_true', Bool.not_eq_false'] at this
    rw [← this]
    exact contains_cel ac cc s.cells W (HA.out.keep hB) (by omega))
  obtain ⟨nc, hnc⟩ : ∃ n, s.cells.length = n := ⟨_, rfl⟩
  obtain ⟨nh, hnh⟩ : ∃ n, s.hist.length = n := ⟨_, rfl⟩
  have HNC := Lib.hid hnc
  have HNH := Lib.hid hnh
  rw [hnh] at HCH
  rw [hnc] at HCC
  rw [hnc, hnh]
  rw [hnc] at hcl
  rw [hnh] at hhl
  clear hnc hnh
  obtain ⟨T, hT⟩ : ∃ T, s.title = T := ⟨_, rfl⟩
  rw [hT] at htl ⊢
  rw [hT] at H9
  clear hT
  have h6 : (nh : Int) ≤ 6 := by have := H10.out; rw [HNH.out] at this; simp only [decide_eq_true_eq] at this; omega
  have hq : ((nc : Int) == pr) = true := by have := H11.out; rw [HNC.out, hpr] at this; simp only [decide_eq_true_eq] at this; simp [this]
  have HB1 : ∀ x, Hid (Below w.heap.size w (w.alloc x)) := fun x => Lib.hid ((Below.refl _ _).alloc (Nat.le_refl _) _)
  go_enter Tryz.func24, Tryz.ntmps24
  try simp only [List.append_eq, List.cons_append, List.nil_append]
  go_wp2_with (first | (go_at_call 25; refine (isSize_c _ _ _).mono ?_; rw [H1.out]; rintro e w' ⟨rfl, rfl⟩) | (go_at_call 31; refine (within_c _ _ _ _).mono ?_; (first | rw [H2.out] | rw [H3.out] | rw [H4.out] | rw [H5.out] | rw [H6.out] | rw [H7.out] | rw [H8.out]); rintro e w' ⟨rfl, rfl⟩) | (go_at_call 52; refine (isTitle_c T _ htl).mono ?_; rw [H9.out]; rintro e w' ⟨rfl, rfl⟩) | (go_at_call 53; refine (HCH.out _ (HB1 _).out).mono ?_; rintro e w' ⟨rfl, rfl⟩) | (go_at_call 55; refine (HCC.out _ (HB1 _).out).mono ?_; rintro e wz ⟨rfl, hbz⟩; have HBZ := Lib.hid ((HB1 _).out.trans (hbz.mono (HB1 _).out.size)); clear hbz))
  go_ret
  exact ⟨rfl, HBZ.out⟩
theorem isScreen_yes (s : ScrI) (ac : Option Addr) (cc : Nat) (ah : Option Addr) (dh : Nat) (w : World) (ha : Sl celE 2 w ac s.cells) (hb : Sl strE 1 w ah s.hist) (hcl : s.cells.length ≤ 1048576) (hhl : s.hist.length ≤ 1048576) (htl : s.title.size ≤ 1099511627776) (h1 : (inB s.w 2 24 && inB s.h 2 10) = true) (h2 : inB s.x 0 s.w = true) (h3 : inB s.y 0 (s.h - 1) = true) (h4 : inB s.look 0 127 = true) (h5 : inB s.top 0 (s.h - 2) = true) (h6 : inB s.bot (s.top + 1) (s.h - 1) = true) (h7 : inB s.sx 0 s.w = true) (h8 : inB s.sy 0 (s.h - 1) = true) (h9 : titB s.title = true) (h10 : decide (s.hist.length ≤ 6) = true) (h11 : decide ((s.cells.length : Int) = s.w * s.h) = true) (h12 : (!s.hist.any bigH) = true) (h13 : (!s.cells.any ncB) = true) :
    Calls Tryz.prog 24 #[.agg #[.int .i64 s.w, .int .i64 s.h, .int .i64 s.x, .int .i64 s.y, .int .i64 s.look, .int .i64 s.top, .int .i64 s.bot, .int .i64 s.sx, .int .i64 s.sy, .string s.title, .slice ac s.cells.length cc, .slice ah s.hist.length dh]] w fun e w' => e = .returned (.bool true) ∧ Below w.heap.size w w' := by
  have H1 := Lib.hid h1
  have H2 := Lib.hid h2
  have H3 := Lib.hid h3
  have H4 := Lib.hid h4
  have H5 := Lib.hid h5
  have H6 := Lib.hid h6
  have H7 := Lib.hid h7
  have H8 := Lib.hid h8
  have H9 := Lib.hid h9
  have H10 := Lib.hid h10
  have H11 := Lib.hid h11
  have H12 := Lib.hid h12
  have H13 := Lib.hid h13
  have HA := Lib.hid ha
  have HBB := Lib.hid hb
  clear ha hb h1 h2 h3 h4 h5 h6 h7 h8 h9 h10 h11 h12 h13
  have hw2 : 2 ≤ s.w ∧ s.w ≤ 24 := by have := H1.out; simp only [inB, Bool.and_eq_true, decide_eq_true_eq] at this; omega
  have hh2 : 2 ≤ s.h ∧ s.h ≤ 10 := by have := H1.out; simp only [inB, Bool.and_eq_true, decide_eq_true_eq] at this; omega
  obtain ⟨hw2a, hw2b⟩ := hw2
  obtain ⟨hh2a, hh2b⟩ := hh2
  have ht2 : 0 ≤ s.top ∧ s.top ≤ s.h - 2 := by have := H5.out; simp only [inB, Bool.and_eq_true, decide_eq_true_eq] at this; omega
  obtain ⟨ht2a, ht2b⟩ := ht2
  obtain ⟨pr, hpr⟩ : ∃ p, s.w * s.h = p := ⟨_, rfl⟩
  have hpr0 : 0 ≤ pr := by rw [← hpr]; exact Int.mul_nonneg (by omega) (by omega)
  have hpr1 : pr ≤ 240 := by rw [← hpr]; exact Int.le_trans (Int.mul_le_mul_of_nonneg_right hw2b (by omega)) (by omega)
  have HCH : Hid (∀ W, Below w.heap.size w W → Calls Tryz.prog 53 #[.slice ah s.hist.length dh, .func (.func 54) #[] #[]] W fun e w' => e = .returned (.bool false) ∧ W = w') := Lib.hid (fun W hB => by
    have := H12.out
    simp only [Bool.not_eq_true', Bool.not_eq_false'] at this
    rw [← this]
    exact contains_impl_isScreen_1 ah dh s.hist W (HBB.out.keep hB) (by omega) (fun _ _ => trivial))
  have HCC : Hid (∀ W, Below w.heap.size w W → Calls Tryz.prog 55 #[.slice ac s.cells.length cc, .func (.func 56) #[] #[]] W fun e w' => e = .returned (.bool false) ∧ Below W.heap.size W w') := Lib.hid (fun W hB => by
    have := H13.out
    simp only [Bool.not_eq_true', Bool.not_eq_false'] at this
    rw [← this]
    exact contains_cel ac cc s.cells W (HA.out.keep hB) (by omega))
  obtain ⟨nc, hnc⟩ : ∃ n, s.cells.length = n := ⟨_, rfl⟩
  obtain ⟨nh, hnh⟩ : ∃ n, s.hist.length = n := ⟨_, rfl⟩
  have HNC := Lib.hid hnc
  have HNH := Lib.hid hnh
  rw [hnh] at HCH
  rw [hnc] at HCC
  rw [hnc, hnh]
  rw [hnc] at hcl
  rw [hnh] at hhl
  clear hnc hnh
  obtain ⟨T, hT⟩ : ∃ T, s.title = T := ⟨_, rfl⟩
  rw [hT] at htl ⊢
  rw [hT] at H9
  clear hT
  have h6 : (nh : Int) ≤ 6 := by have := H10.out; rw [HNH.out] at this; simp only [decide_eq_true_eq] at this; omega
  have hq : ((nc : Int) == pr) = true := by have := H11.out; rw [HNC.out, hpr] at this; simp only [decide_eq_true_eq] at this; simp [this]
  have HB1 : ∀ x, Hid (Below w.heap.size w (w.alloc x)) := fun x => Lib.hid ((Below.refl _ _).alloc (Nat.le_refl _) _)
  go_enter Tryz.func24, Tryz.ntmps24
  try simp only [List.append_eq, List.cons_append, List.nil_append]
  go_wp2_with (first | (go_at_call 25; refine (isSize_c _ _ _).mono ?_; rw [H1.out]; rintro e w' ⟨rfl, rfl⟩) | (go_at_call 31; refine (within_c _ _ _ _).mono ?_; (first | rw [H2.out] | rw [H3.out] | rw [H4.out] | rw [H5.out] | rw [H6.out] | rw [H7.out] | rw [H8.out]); rintro e w' ⟨rfl, rfl⟩) | (go_at_call 52; refine (isTitle_c T _ htl).mono ?_; rw [H9.out]; rintro e w' ⟨rfl, rfl⟩) | (go_at_call 53; refine (HCH.out _ (HB1 _).out).mono ?_; rintro e w' ⟨rfl, rfl⟩) | (go_at_call 55; refine (HCC.out _ (HB1 _).out).mono ?_; rintro e wz ⟨rfl, hbz⟩; have HBZ := Lib.hid ((HB1 _).out.trans (hbz.mono (HB1 _).out.size)); clear hbz))
  go_ret
  exact ⟨rfl, HBZ.out⟩
end
section
open Go.RowKit
theorem scrB_impl (s : ScrI) : scrB s = ((inB s.w 2 24 && inB s.h 2 10) && inB s.x 0 s.w && inB s.y 0 (s.h - 1) && inB s.look 0 127 && inB s.top 0 (s.h - 2) && inB s.bot (s.top + 1) (s.h - 1) && inB s.sx 0 s.w && inB s.sy 0 (s.h - 1) && titB s.title && decide (s.hist.length ≤ 6) && decide ((s.cells.length : Int) = s.w * s.h) && (!s.hist.any bigH) && (!s.cells.any ncB)) := by
  have e1 : (!s.hist.any bigH) = s.hist.all fun t => decide (t.size ≤ 96) := by
    rw [List.not_any_eq_all_not]
    congr 1
    funext t
    unfold bigH
    rw [← decide_not]
    simp
  have e2 : (!s.cells.any ncB) = s.cells.all celB := by
    rw [List.not_any_eq_all_not]
    congr 1
    funext c
    unfold ncB
    simp
  rw [e1, e2]
  unfold scrB scrH titB tiB
  rw [Bool.eq_iff_iff]
  simp only [Bool.and_eq_true]
  constructor
  · rintro ⟨⟨⟨⟨⟨⟨⟨⟨⟨⟨⟨⟨⟨a1, b⟩, c⟩, d⟩, e⟩, f⟩, g⟩, h⟩, j⟩, k⟩, l⟩, m⟩, n⟩, o⟩
    exact ⟨⟨⟨⟨⟨⟨⟨⟨⟨⟨⟨⟨a1, b⟩, c⟩, d⟩, e⟩, f⟩, g⟩, h⟩, j, m⟩, l⟩, k⟩, o⟩, n⟩
  · rintro ⟨⟨⟨⟨⟨⟨⟨⟨⟨⟨⟨⟨a1, b⟩, c⟩, d⟩, e⟩, f⟩, g⟩, h⟩, j, m⟩, l⟩, k⟩, o⟩, n⟩
    exact ⟨⟨⟨⟨⟨⟨⟨⟨⟨⟨⟨⟨⟨a1, b⟩, c⟩, d⟩, e⟩, f⟩, g⟩, h⟩, j⟩, k⟩, l⟩, m⟩, n⟩, o⟩
theorem isScreen_c (s : ScrI) (ac : Option Addr) (cc : Nat) (ah : Option Addr) (dh : Nat) (w : World) (ha : Sl celE 2 w ac s.cells) (hb : Sl strE 1 w ah s.hist) (hcl : s.cells.length ≤ 1048576) (hhl : s.hist.length ≤ 1048576) (htl : s.title.size ≤ 1099511627776) :
    Calls Tryz.prog 24 #[.agg #[.int .i64 s.w, .int .i64 s.h, .int .i64 s.x, .int .i64 s.y, .int .i64 s.look, .int .i64 s.top, .int .i64 s.bot, .int .i64 s.sx, .int .i64 s.sy, .string s.title, .slice ac s.cells.length cc, .slice ah s.hist.length dh]] w fun e w' => e = .returned (.bool (scrB s)) ∧ Below w.heap.size w w' := by
  have E := scrB_impl s
  cases h1 : (inB s.w 2 24 && inB s.h 2 10)
  · have e : scrB s = false := by rw [E, h1]; simp
    rw [e]
    exact isScreen_no1 s ac cc ah dh w ha hb hcl hhl htl h1
  cases h2 : inB s.x 0 s.w
  · have e : scrB s = false := by rw [E, h1, h2]; simp
    rw [e]
    exact isScreen_no2 s ac cc ah dh w ha hb hcl hhl htl h1 h2
  cases h3 : inB s.y 0 (s.h - 1)
  · have e : scrB s = false := by rw [E, h1, h2, h3]; simp
    rw [e]
    exact isScreen_no3 s ac cc ah dh w ha hb hcl hhl htl h1 h2 h3
  cases h4 : inB s.look 0 127
  · have e : scrB s = false := by rw [E, h1, h2, h3, h4]; simp
    rw [e]
    exact isScreen_no4 s ac cc ah dh w ha hb hcl hhl htl h1 h2 h3 h4
  cases h5 : inB s.top 0 (s.h - 2)
  · have e : scrB s = false := by rw [E, h1, h2, h3, h4, h5]; simp
    rw [e]
    exact isScreen_no5 s ac cc ah dh w ha hb hcl hhl htl h1 h2 h3 h4 h5
  cases h6 : inB s.bot (s.top + 1) (s.h - 1)
  · have e : scrB s = false := by rw [E, h1, h2, h3, h4, h5, h6]; simp
    rw [e]
    exact isScreen_no6 s ac cc ah dh w ha hb hcl hhl htl h1 h2 h3 h4 h5 h6
  cases h7 : inB s.sx 0 s.w
  · have e : scrB s = false := by rw [E, h1, h2, h3, h4, h5, h6, h7]; simp
    rw [e]
    exact isScreen_no7 s ac cc ah dh w ha hb hcl hhl htl h1 h2 h3 h4 h5 h6 h7
  cases h8 : inB s.sy 0 (s.h - 1)
  · have e : scrB s = false := by rw [E, h1, h2, h3, h4, h5, h6, h7, h8]; simp
    rw [e]
    exact isScreen_no8 s ac cc ah dh w ha hb hcl hhl htl h1 h2 h3 h4 h5 h6 h7 h8
  cases h9 : titB s.title
  · have e : scrB s = false := by rw [E, h1, h2, h3, h4, h5, h6, h7, h8, h9]; simp
    rw [e]
    exact isScreen_no9 s ac cc ah dh w ha hb hcl hhl htl h1 h2 h3 h4 h5 h6 h7 h8 h9
  cases h10 : decide (s.hist.length ≤ 6)
  · have e : scrB s = false := by rw [E, h1, h2, h3, h4, h5, h6, h7, h8, h9, h10]; simp
    rw [e]
    exact isScreen_no10 s ac cc ah dh w ha hb hcl hhl htl h1 h2 h3 h4 h5 h6 h7 h8 h9 h10
  cases h11 : decide ((s.cells.length : Int) = s.w * s.h)
  · have e : scrB s = false := by rw [E, h1, h2, h3, h4, h5, h6, h7, h8, h9, h10, h11]; simp
    rw [e]
    exact isScreen_no11 s ac cc ah dh w ha hb hcl hhl htl h1 h2 h3 h4 h5 h6 h7 h8 h9 h10 h11
  cases h12 : (!s.hist.any bigH)
  · have e : scrB s = false := by rw [E, h1, h2, h3, h4, h5, h6, h7, h8, h9, h10, h11, h12]; simp
    rw [e]
    exact isScreen_no12 s ac cc ah dh w ha hb hcl hhl htl h1 h2 h3 h4 h5 h6 h7 h8 h9 h10 h11 h12
  cases h13 : (!s.cells.any ncB)
  · have e : scrB s = false := by rw [E, h1, h2, h3, h4, h5, h6, h7, h8, h9, h10, h11, h12, h13]; simp
    rw [e]
    exact isScreen_no13 s ac cc ah dh w ha hb hcl hhl htl h1 h2 h3 h4 h5 h6 h7 h8 h9 h10 h11 h12 h13
  have e : scrB s = true := by rw [E, h1, h2, h3, h4, h5, h6, h7, h8, h9, h10, h11, h12, h13]; simp
  rw [e]
  exact isScreen_yes s ac cc ah dh w ha hb hcl hhl htl h1 h2 h3 h4 h5 h6 h7 h8 h9 h10 h11 h12 h13
end
end Go.Proofs.YtjmpgeffkdjpdaaGreatDoor
