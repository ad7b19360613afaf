/- Contracts of the functions that the claim reaches. No conditions but sizes. -/
import Derived.Test.YtjmpgeffkdjpdaaGreatDoorPTme
import Derived.Laws.IdiomStrings
namespace Go.Proofs.YtjmpgeffkdjpdaaGreatDoor
set_option linter.unusedVariables false
set_option linter.unusedSimpArgs false
set_option maxRecDepth 100000
set_option maxHeartbeats 16000000
open Go.RowKit
section
theorem csi76_c (lo b : Nat) (s : Scr) (g cc : Nat) (ah : Option Addr) (dh : Nat) (w : World) (kd : Int) (xs : List Int) (aa : Option Addr) (ca : Nat) (tx : ByteArray) (h : SA lo b 0 s g cc ah dh w) (ok : sK s) (hlo : lo ≤ w.heap.size) (ha : Sl iE 1 w aa xs) (hna : ∀ k ∈ bO aa, k ≠ b ∧ k ≠ g ∧ k ∉ bO ah) (hx8 : xs.length ≤ 8) (hxr : ∀ x ∈ xs, -1 ≤ x ∧ x ≤ 9999) :
 Calls Tryz.prog 82 #[.pointer (some ⟨b, 0, none⟩), .agg #[.int .i64 kd, .int .i64 76, .bool false, .slice aa xs.length ca, .string tx]] w fun e w' => e = .returned (.tuple #[]) ∧ sR lo b 0 (csiS s 76 xs) g ah w w' := by
 have HS := zz h
 have HOK := zz ok
 have HA := zz ha
 have HNA := zz hna
 have HXR := zz hxr
 have HX8 := zz hx8
 have hw1 := ok.w1
 have hw2 := ok.w2
 have hh1 := ok.h1
 have hh2 := ok.h2
 have hx := ok.hx
 have hy := ok.hy
 have hcur := ok.cur
 have hcn := ok.cn
 have hlt := h.lt
 obtain ⟨n, hn⟩ := eX (arg1 xs 0)
 obtain ⟨A0, hA0⟩ := eX (argA xs 0 1)
 have hAb : -1 ≤ A0 ∧ A0 ≤ 9999 := by rw [← hA0]; exact Za1 HXR.out (by omega) (by omega)
 have hm : max 1 A0 = (n : Int) := by rw [← hn, ← hA0]; unfold arg1; omega
 have hn1 : 1 ≤ n := by omega
 have hn2 : n ≤ 9999 := by omega
 have HN := zz hn
 have HA0 := zz hA0
 obtain ⟨p, hp⟩ := eX (s.y * s.w)
 obtain ⟨mx, hmx⟩ := eX (min s.x (s.w - 1))
 obtain ⟨cr, hcr⟩ := eX (curS s)
 obtain ⟨pn, hpn⟩ : ∃ q, (s.y + 1) * s.w = q := ⟨_, rfl⟩
 obtain ⟨nn, hnn⟩ := eX (s.w * s.h)
 obtain ⟨hpi, hpni, hnni, hmi, hcri, hn240⟩ := csP s hp hpn hnn hmx hcr hw1 hw2 hh2
 rw [hcr, hp, hpn, hnn] at hcur
 rw [hnn] at hcn
 obtain ⟨hc1, hc2, hc3⟩ := hcur
 have HCN := zz hcn
 have HP := zz hp
 have HMX := zz hmx
 have HCR := zz hcr
 have HPN := zz hpn
 have HNN := zz hnn
 obtain ⟨hwA, hwB, hwC, hwD, hwE, hwF, hwG⟩ := csW s p cr pn nn
 obtain ⟨ln, hln⟩ := eX (xs.length)
 have HLN := zz hln
 have HCALL : ∀ (i : Nat) (d : Int) (W : World), i ≤ 7 → Sl iE 1 W aa xs → Calls Tryz.prog 117 #[.agg #[.int .i64 kd, .int .i64 76, .bool false, .slice aa ln ca, .string tx], .int .i64 i, .int .i64 d] W fun e w' => e = .returned (.int .i64 (argA xs i d)) ∧ Below W.heap.size W w' := fun i d W hi hW => by
  rw [← hln]
  exact lA kd 76 false tx xs aa ca i d W hW hi hx8
 rw [hln]
 clear h ok ha hna hxr hx8 hn hA0 hp hmx hcr hpn hnn hcn hln
 go_enter Tryz.func82, Tryz.ntmps82
 go_wp2_with fail
 refine (HCALL 0 1 _ (by omega) (HA.out.alloc _)).mono ?_
 rintro e v0 ⟨rfl, hb0⟩
 rw [HA0.out]
 have HB0 : Hid (Below w.heap.size w v0) := zz (((Below.refl w.heap.size w).alloc (Nat.le_refl _) _).trans (hb0.mono (by simp)))
 have hz0 := HB0.out.size
 have q_l : w.heap.size < v0.heap.size := by have := hb0.size; simp at this; omega
 have q_0 : v0.cell? ⟨w.heap.size, 0, none⟩ = some (.int .i64 kd) := kC hb0 (by simp) (by simp [go_sem])
 have q_1 : v0.cell? ⟨w.heap.size, 1, none⟩ = some (.int .i64 76) := kC hb0 (by simp) (by simp [go_sem])
 have q_2 : v0.cell? ⟨w.heap.size, 2, none⟩ = some (.bool false) := kC hb0 (by simp) (by simp [go_sem])
 have q_3 : v0.cell? ⟨w.heap.size, 3, none⟩ = some (.slice aa ln ca) := kC hb0 (by simp) (by simp [go_sem])
 have q_4 : v0.cell? ⟨w.heap.size, 4, none⟩ = some (.string tx) := kC hb0 (by simp) (by simp [go_sem])
 clear hb0
 have q_b : ¬ w.heap.size = b := by omega
 have HA_nb : ∀ k ∈ bO aa, ¬ k = b := fun k hk => (HNA.out k hk).1
 have Hv0 := zz (HS.out.below HB0.out)
 have HA2 := zz (HA.out.keep HB0.out)
 have HUv0 : Hid (Upd b 0 (0 + 12) (fun k => k = g ∨ k ∈ bO ah) w v0) := zz (Upd.refl'.below HB0.out HS.out.lt)
 have HA2_nb := HA_nb
 have k_0 := Hv0.out.e0
 have k_1 := Hv0.out.e1
 have k_2 := Hv0.out.e2
 have k_3 := Hv0.out.e3
 have k_4 := Hv0.out.e4
 have k_5 := Hv0.out.e5
 have k_6 := Hv0.out.e6
 have k_7 := Hv0.out.e7
 have k_8 := Hv0.out.e8
 have k_9 := Hv0.out.e9
 have k_10 := Hv0.out.e10
 have k_11 := Hv0.out.e11
 have k_f := Hv0.out.fz
 have k_l := Hv0.out.lt
 go_upto_region 4 with fail
 have hSc1 := And.intro k_0 (And.intro k_2 k_3)
 refine rO (fun w' => w'.cell? ⟨b, 0, none⟩ = some (.int .i64 s.w) ∧ w'.cell? ⟨b, 2, none⟩ = some (.int .i64 s.x) ∧ w'.cell? ⟨b, 3, none⟩ = some (.int .i64 s.y)) [] [0,1,2,3,4,5,6,7,8,9,10,11,12,13,14,15,16,17,18,19,20] ?_
 iterate 21 (first | refine oW (h := ?_) | refine oL (hS := hSc1) (h := ?_))
 refine oD ?_
 obtain ⟨v1, hv1⟩ := eX (v0.drew)
 have HBv1 : Hid (Below v0.heap.size v0 v1) := zz (by rw [← hv1]; exact (Below.refl _ _).drew)
 rw [hv1]
 have hzv1 := HBv1.out.size
 have Hv1 := zz (Hv0.out.below HBv1.out)
 have HUv1 : Hid (Upd b 0 (0 + 12) (fun k => k = g ∨ k ∈ bO ah) w v1) := zz (HUv0.out.below HBv1.out Hv0.out.lt)
 have qn_0 := kC HBv1.out q_l q_0
 have qn_1 := kC HBv1.out q_l q_1
 have qn_2 := kC HBv1.out q_l q_2
 have qn_3 := kC HBv1.out q_l q_3
 have qn_4 := kC HBv1.out q_l q_4
 have qn_l := Nat.lt_of_lt_of_le q_l HBv1.out.size
 clear q_0 q_1 q_2 q_3 q_4 q_l
 have HA2n := zz (HA2.out.keep HBv1.out)
 clear k_f k_l k_0 k_1 k_2 k_3 k_4 k_5 k_6 k_7 k_8 k_9 k_10 k_11 hv1 hSc1
 have k_0 := Hv1.out.e0
 have k_1 := Hv1.out.e1
 have k_2 := Hv1.out.e2
 have k_3 := Hv1.out.e3
 have k_4 := Hv1.out.e4
 have k_5 := Hv1.out.e5
 have k_6 := Hv1.out.e6
 have k_7 := Hv1.out.e7
 have k_8 := Hv1.out.e8
 have k_9 := Hv1.out.e9
 have k_10 := Hv1.out.e10
 have k_11 := Hv1.out.e11
 have k_f := Hv1.out.fz
 have k_l := Hv1.out.lt
 by_cases hin : s.top ≤ s.y ∧ s.y ≤ s.bot
 ·have HI : Hid (inB (s.y : Int) (s.top : Int) (s.bot : Int) = true) := zz (by simp only [inB, Bool.and_eq_true, decide_eq_true_eq]; omega)
  have htb := HOK.out.tb
  have hbh := HOK.out.bh
  obtain ⟨m, hmm⟩ := eX (min n (s.bot - s.y + 1))
  have hmi2 : min (n : Int) ((s.bot : Int) - (s.y : Int) + 1) = (m : Int) := by omega
  have hm10 : m ≤ 10 := by omega
  have HM := zz hmm
  have hwI : IntKind.i64.wrap ((s.bot : Int) - (s.y : Int)) = (s.bot : Int) - (s.y : Int) := iIq _
  have hwJ : IntKind.i64.wrap ((s.bot : Int) - (s.y : Int) + 1) = (s.bot : Int) - (s.y : Int) + 1 := iIq _
  have hwK : IntKind.i64.wrap (-(m : Int)) = -(m : Int) := iIq _
  have HIN := zz hin
  clear hin hmm
  go_upto_region 36 with fail
  have hSc2 := And.intro k_3 (And.intro k_5 k_6)
  refine rO (fun w' => w'.cell? ⟨b, 3, none⟩ = some (.int .i64 s.y) ∧ w'.cell? ⟨b, 5, none⟩ = some (.int .i64 s.top) ∧ w'.cell? ⟨b, 6, none⟩ = some (.int .i64 s.bot)) [] [0,1,2,3,4,5,6,7,8,9,10,11,12] ?_
  iterate 12 (first | refine oW (h := ?_) | refine oL (hS := hSc2) (h := ?_))
  refine oO (hS := .inr hSc2) (h := ?_)
  intro K' hK
  go_simp
  refine (lI _ _ _ _).mono ?_
  rw [HI.out]
  rintro e x1 ⟨rfl, rfl⟩
  refine oN hK (hS := .inr hSc2) (h := ?_)
  clear hK K'
  refine oD ?_
  obtain ⟨v2, hv2⟩ := eX (v1.drew)
  have HBv2 : Hid (Below v1.heap.size v1 v2) := zz (by rw [← hv2]; exact (Below.refl _ _).drew)
  rw [hv2]
  have hzv2 := HBv2.out.size
  have Hv2 := zz (Hv1.out.below HBv2.out)
  have HUv2 : Hid (Upd b 0 (0 + 12) (fun k => k = g ∨ k ∈ bO ah) w v2) := zz (HUv1.out.below HBv2.out Hv1.out.lt)
  have qnn_0 := kC HBv2.out qn_l qn_0
  have qnn_1 := kC HBv2.out qn_l qn_1
  have qnn_2 := kC HBv2.out qn_l qn_2
  have qnn_3 := kC HBv2.out qn_l qn_3
  have qnn_4 := kC HBv2.out qn_l qn_4
  have qnn_l := Nat.lt_of_lt_of_le qn_l HBv2.out.size
  clear qn_0 qn_1 qn_2 qn_3 qn_4 qn_l
  have HA2nn := zz (HA2n.out.keep HBv2.out)
  clear k_f k_l k_0 k_1 k_2 k_3 k_4 k_5 k_6 k_7 k_8 k_9 k_10 k_11 hv2 hSc2
  have k_0 := Hv2.out.e0
  have k_1 := Hv2.out.e1
  have k_2 := Hv2.out.e2
  have k_3 := Hv2.out.e3
  have k_4 := Hv2.out.e4
  have k_5 := Hv2.out.e5
  have k_6 := Hv2.out.e6
  have k_7 := Hv2.out.e7
  have k_8 := Hv2.out.e8
  have k_9 := Hv2.out.e9
  have k_10 := Hv2.out.e10
  have k_11 := Hv2.out.e11
  have k_f := Hv2.out.fz
  have k_l := Hv2.out.lt
  go_upto_region 37 with fail
  have hSc3 := And.intro k_3 k_6
  refine rO (fun w' => w'.cell? ⟨b, 3, none⟩ = some (.int .i64 s.y) ∧ w'.cell? ⟨b, 6, none⟩ = some (.int .i64 s.bot)) [] [0,1,2,3,4,5,6,7,8,9,10,11,12] ?_
  iterate 13 (first | refine oW (h := ?_) | refine oL (hS := hSc3) (h := ?_))
  refine oD ?_
  obtain ⟨v3, hv3⟩ := eX (v2.drew)
  have HBv3 : Hid (Below v2.heap.size v2 v3) := zz (by rw [← hv3]; exact (Below.refl _ _).drew)
  rw [hv3]
  have hzv3 := HBv3.out.size
  have Hv3 := zz (Hv2.out.below HBv3.out)
  have HUv3 : Hid (Upd b 0 (0 + 12) (fun k => k = g ∨ k ∈ bO ah) w v3) := zz (HUv2.out.below HBv3.out Hv2.out.lt)
  have qnnn_0 := kC HBv3.out qnn_l qnn_0
  have qnnn_1 := kC HBv3.out qnn_l qnn_1
  have qnnn_2 := kC HBv3.out qnn_l qnn_2
  have qnnn_3 := kC HBv3.out qnn_l qnn_3
  have qnnn_4 := kC HBv3.out qnn_l qnn_4
  have qnnn_l := Nat.lt_of_lt_of_le qnn_l HBv3.out.size
  clear qnn_0 qnn_1 qnn_2 qnn_3 qnn_4 qnn_l
  have HA2nnn := zz (HA2nn.out.keep HBv3.out)
  clear k_f k_l k_0 k_1 k_2 k_3 k_4 k_5 k_6 k_7 k_8 k_9 k_10 k_11 hv3 hSc3
  have k_0 := Hv3.out.e0
  have k_1 := Hv3.out.e1
  have k_2 := Hv3.out.e2
  have k_3 := Hv3.out.e3
  have k_4 := Hv3.out.e4
  have k_5 := Hv3.out.e5
  have k_6 := Hv3.out.e6
  have k_7 := Hv3.out.e7
  have k_8 := Hv3.out.e8
  have k_9 := Hv3.out.e9
  have k_10 := Hv3.out.e10
  have k_11 := Hv3.out.e11
  have k_f := Hv3.out.fz
  have k_l := Hv3.out.lt
  go_upto_region 40 with fail
  have hSc4 := And.intro k_3 k_6
  refine rO (fun w' => w'.cell? ⟨b, 3, none⟩ = some (.int .i64 s.y) ∧ w'.cell? ⟨b, 6, none⟩ = some (.int .i64 s.bot)) [] [0,1,2,3,4,5,6,7,8,9,10] ?_
  iterate 10 (first | refine oW (h := ?_) | refine oL (hS := hSc4) (h := ?_))
  refine oO (hS := .inr hSc4) (h := ?_)
  intro K' hK
  go_simp
  refine (Yg5 lo b s g cc ah dh _ s.y s.bot m Hv3.out.drew HOK.out HIN.out.2 HOK.out.bh hm10 (by show lo ≤ v3.heap.size; omega)).mono ?_
  rintro e x1 ⟨rfl, g1, cc1, ah1, dh1, ha, hu, hg, hh⟩
  have e1 := Zc2 s.y s.bot s m
  have HX := zz ha
  have HR : Hid (Upd b 0 (0 + 12) (fun k => k = g ∨ k ∈ bO ah) w x1 ∧ (g1 = g ∨ w.heap.size ≤ g1) ∧ ∀ i ∈ bO ah1, i ∈ bO ah ∨ w.heap.size ≤ i) := zz (by
   obtain ⟨g2, c2, a2, d2, _⟩ : ∃ g2 c2 a2 d2, SA lo b 0 (scD s.y s.bot m s) g2 c2 a2 d2 x1 := ⟨_, _, _, _, ha⟩
   refine ⟨HUv3.out.drew.transN hu (fun i hi => .inl hi), hg.imp id (fun h => by have : v3.heap.size ≤ g1 := h; omega), fun i hi => (hh i hi).imp id (fun h => by have : v3.heap.size ≤ i := h; omega)⟩)
  have hSx : x1.cell? ⟨b, 3, none⟩ = some (.int .i64 s.y) ∧ x1.cell? ⟨b, 6, none⟩ = some (.int .i64 s.bot) := ⟨by have := ha.c3; rw [e1.2.2.2.1] at this; exact this, by have := ha.c6; rw [e1.2.2.2.2.2.2.1] at this; exact this⟩
  have z_2 : x1.cell? ⟨b, 2, none⟩ = some (.int .i64 s.x) := by have := ha.c2; rw [e1.2.2.1] at this; exact this
  have z_f := ha.fz
  have z_l := ha.lt
  clear ha hu hg hh
  refine oN hK (hS := .inr hSx) (h := ?_)
  clear hK K'
  refine oD ?_
  go_wp2_with fail
  first | refine bodyPost_end (v := .tuple #[]) (by simp [results, Tryz.results82]) rfl ?_ | refine bodyPost_ret (v := .tuple #[]) (by simp [results, Tryz.results82]) rfl ?_
  refine ⟨rfl, ?_⟩
  unfold csiS
  rw [if_neg (by decide), if_neg (by decide), if_neg (by decide), if_neg (by decide), if_neg (by decide), if_neg (by decide), if_neg (by decide), if_pos (by decide)]
  rw [if_pos HIN.out, HN.out, HM.out]
  exact sR.trans HX.out HR.out.1 HR.out.2.1 HR.out.2.2 (.mk (HX.out.setv2 0 rfl) (Upd.refl'.set2 _))
 ·have HI : Hid (inB (s.y : Int) (s.top : Int) (s.bot : Int) = false) := zz (by simp only [inB, Bool.and_eq_false_iff, decide_eq_false_iff_not]; omega)
  go_upto_region 36 with fail
  have hSc2 := And.intro k_3 (And.intro k_5 k_6)
  refine rO (fun w' => w'.cell? ⟨b, 3, none⟩ = some (.int .i64 s.y) ∧ w'.cell? ⟨b, 5, none⟩ = some (.int .i64 s.top) ∧ w'.cell? ⟨b, 6, none⟩ = some (.int .i64 s.bot)) [] [0,1,2,3,4,5,6,7,8,9,10,11,12] ?_
  iterate 12 (first | refine oW (h := ?_) | refine oL (hS := hSc2) (h := ?_))
  refine oO (hS := .inr hSc2) (h := ?_)
  intro K' hK
  go_simp
  refine (lI _ _ _ _).mono ?_
  rw [HI.out]
  rintro e x1 ⟨rfl, rfl⟩
  refine oN hK (hS := .inr hSc2) (h := ?_)
  clear hK K'
  refine oD ?_
  obtain ⟨v2, hv2⟩ := eX (v1.drew)
  have HBv2 : Hid (Below v1.heap.size v1 v2) := zz (by rw [← hv2]; exact (Below.refl _ _).drew)
  rw [hv2]
  have hzv2 := HBv2.out.size
  have Hv2 := zz (Hv1.out.below HBv2.out)
  have HUv2 : Hid (Upd b 0 (0 + 12) (fun k => k = g ∨ k ∈ bO ah) w v2) := zz (HUv1.out.below HBv2.out Hv1.out.lt)
  have qnn_0 := kC HBv2.out qn_l qn_0
  have qnn_1 := kC HBv2.out qn_l qn_1
  have qnn_2 := kC HBv2.out qn_l qn_2
  have qnn_3 := kC HBv2.out qn_l qn_3
  have qnn_4 := kC HBv2.out qn_l qn_4
  have qnn_l := Nat.lt_of_lt_of_le qn_l HBv2.out.size
  clear qn_0 qn_1 qn_2 qn_3 qn_4 qn_l
  have HA2nn := zz (HA2n.out.keep HBv2.out)
  clear k_f k_l k_0 k_1 k_2 k_3 k_4 k_5 k_6 k_7 k_8 k_9 k_10 k_11 hv2 hSc2
  have k_0 := Hv2.out.e0
  have k_1 := Hv2.out.e1
  have k_2 := Hv2.out.e2
  have k_3 := Hv2.out.e3
  have k_4 := Hv2.out.e4
  have k_5 := Hv2.out.e5
  have k_6 := Hv2.out.e6
  have k_7 := Hv2.out.e7
  have k_8 := Hv2.out.e8
  have k_9 := Hv2.out.e9
  have k_10 := Hv2.out.e10
  have k_11 := Hv2.out.e11
  have k_f := Hv2.out.fz
  have k_l := Hv2.out.lt
  go_wp2_with fail
  first | refine bodyPost_end (v := .tuple #[]) (by simp [results, Tryz.results82]) rfl ?_ | refine bodyPost_ret (v := .tuple #[]) (by simp [results, Tryz.results82]) rfl ?_
  refine ⟨rfl, ?_⟩
  unfold csiS
  rw [if_neg (by decide), if_neg (by decide), if_neg (by decide), if_neg (by decide), if_neg (by decide), if_neg (by decide), if_neg (by decide), if_pos (by decide)]
  rw [if_neg hin]
  exact .mk Hv2.out HUv2.out
theorem csi77_c (lo b : Nat) (s : Scr) (g cc : Nat) (ah : Option Addr) (dh : Nat) (w : World) (kd : Int) (xs : List Int) (aa : Option Addr) (ca : Nat) (tx : ByteArray) (h : SA lo b 0 s g cc ah dh w) (ok : sK s) (hlo : lo ≤ w.heap.size) (ha : Sl iE 1 w aa xs) (hna : ∀ k ∈ bO aa, k ≠ b ∧ k ≠ g ∧ k ∉ bO ah) (hx8 : xs.length ≤ 8) (hxr : ∀ x ∈ xs, -1 ≤ x ∧ x ≤ 9999) :
 Calls Tryz.prog 82 #[.pointer (some ⟨b, 0, none⟩), .agg #[.int .i64 kd, .int .i64 77, .bool false, .slice aa xs.length ca, .string tx]] w fun e w' => e = .returned (.tuple #[]) ∧ sR lo b 0 (csiS s 77 xs) g ah w w' := by
 have HS := zz h
 have HOK := zz ok
 have HA := zz ha
 have HNA := zz hna
 have HXR := zz hxr
 have HX8 := zz hx8
 have hw1 := ok.w1
 have hw2 := ok.w2
 have hh1 := ok.h1
 have hh2 := ok.h2
 have hx := ok.hx
 have hy := ok.hy
 have hcur := ok.cur
 have hcn := ok.cn
 have hlt := h.lt
 obtain ⟨n, hn⟩ := eX (arg1 xs 0)
 obtain ⟨A0, hA0⟩ := eX (argA xs 0 1)
 have hAb : -1 ≤ A0 ∧ A0 ≤ 9999 := by rw [← hA0]; exact Za1 HXR.out (by omega) (by omega)
 have hm : max 1 A0 = (n : Int) := by rw [← hn, ← hA0]; unfold arg1; omega
 have hn1 : 1 ≤ n := by omega
 have hn2 : n ≤ 9999 := by omega
 have HN := zz hn
 have HA0 := zz hA0
 obtain ⟨p, hp⟩ := eX (s.y * s.w)
 obtain ⟨mx, hmx⟩ := eX (min s.x (s.w - 1))
 obtain ⟨cr, hcr⟩ := eX (curS s)
 obtain ⟨pn, hpn⟩ : ∃ q, (s.y + 1) * s.w = q := ⟨_, rfl⟩
 obtain ⟨nn, hnn⟩ := eX (s.w * s.h)
 obtain ⟨hpi, hpni, hnni, hmi, hcri, hn240⟩ := csP s hp hpn hnn hmx hcr hw1 hw2 hh2
 rw [hcr, hp, hpn, hnn] at hcur
 rw [hnn] at hcn
 obtain ⟨hc1, hc2, hc3⟩ := hcur
 have HCN := zz hcn
 have HP := zz hp
 have HMX := zz hmx
 have HCR := zz hcr
 have HPN := zz hpn
 have HNN := zz hnn
 obtain ⟨hwA, hwB, hwC, hwD, hwE, hwF, hwG⟩ := csW s p cr pn nn
 obtain ⟨ln, hln⟩ := eX (xs.length)
 have HLN := zz hln
 have HCALL : ∀ (i : Nat) (d : Int) (W : World), i ≤ 7 → Sl iE 1 W aa xs → Calls Tryz.prog 117 #[.agg #[.int .i64 kd, .int .i64 77, .bool false, .slice aa ln ca, .string tx], .int .i64 i, .int .i64 d] W fun e w' => e = .returned (.int .i64 (argA xs i d)) ∧ Below W.heap.size W w' := fun i d W hi hW => by
  rw [← hln]
  exact lA kd 77 false tx xs aa ca i d W hW hi hx8
 rw [hln]
 clear h ok ha hna hxr hx8 hn hA0 hp hmx hcr hpn hnn hcn hln
 go_enter Tryz.func82, Tryz.ntmps82
 go_wp2_with fail
 refine (HCALL 0 1 _ (by omega) (HA.out.alloc _)).mono ?_
 rintro e v0 ⟨rfl, hb0⟩
 rw [HA0.out]
 have HB0 : Hid (Below w.heap.size w v0) := zz (((Below.refl w.heap.size w).alloc (Nat.le_refl _) _).trans (hb0.mono (by simp)))
 have hz0 := HB0.out.size
 have q_l : w.heap.size < v0.heap.size := by have := hb0.size; simp at this; omega
 have q_0 : v0.cell? ⟨w.heap.size, 0, none⟩ = some (.int .i64 kd) := kC hb0 (by simp) (by simp [go_sem])
 have q_1 : v0.cell? ⟨w.heap.size, 1, none⟩ = some (.int .i64 77) := kC hb0 (by simp) (by simp [go_sem])
 have q_2 : v0.cell? ⟨w.heap.size, 2, none⟩ = some (.bool false) := kC hb0 (by simp) (by simp [go_sem])
 have q_3 : v0.cell? ⟨w.heap.size, 3, none⟩ = some (.slice aa ln ca) := kC hb0 (by simp) (by simp [go_sem])
 have q_4 : v0.cell? ⟨w.heap.size, 4, none⟩ = some (.string tx) := kC hb0 (by simp) (by simp [go_sem])
 clear hb0
 have q_b : ¬ w.heap.size = b := by omega
 have HA_nb : ∀ k ∈ bO aa, ¬ k = b := fun k hk => (HNA.out k hk).1
 have Hv0 := zz (HS.out.below HB0.out)
 have HA2 := zz (HA.out.keep HB0.out)
 have HUv0 : Hid (Upd b 0 (0 + 12) (fun k => k = g ∨ k ∈ bO ah) w v0) := zz (Upd.refl'.below HB0.out HS.out.lt)
 have HA2_nb := HA_nb
 have k_0 := Hv0.out.e0
 have k_1 := Hv0.out.e1
 have k_2 := Hv0.out.e2
 have k_3 := Hv0.out.e3
 have k_4 := Hv0.out.e4
 have k_5 := Hv0.out.e5
 have k_6 := Hv0.out.e6
 have k_7 := Hv0.out.e7
 have k_8 := Hv0.out.e8
 have k_9 := Hv0.out.e9
 have k_10 := Hv0.out.e10
 have k_11 := Hv0.out.e11
 have k_f := Hv0.out.fz
 have k_l := Hv0.out.lt
 go_upto_region 4 with fail
 have hSc1 := And.intro k_0 (And.intro k_2 k_3)
 refine rO (fun w' => w'.cell? ⟨b, 0, none⟩ = some (.int .i64 s.w) ∧ w'.cell? ⟨b, 2, none⟩ = some (.int .i64 s.x) ∧ w'.cell? ⟨b, 3, none⟩ = some (.int .i64 s.y)) [] [0,1,2,3,4,5,6,7,8,9,10,11,12,13,14,15,16,17,18,19,20] ?_
 iterate 21 (first | refine oW (h := ?_) | refine oL (hS := hSc1) (h := ?_))
 refine oD ?_
 obtain ⟨v1, hv1⟩ := eX (v0.drew)
 have HBv1 : Hid (Below v0.heap.size v0 v1) := zz (by rw [← hv1]; exact (Below.refl _ _).drew)
 rw [hv1]
 have hzv1 := HBv1.out.size
 have Hv1 := zz (Hv0.out.below HBv1.out)
 have HUv1 : Hid (Upd b 0 (0 + 12) (fun k => k = g ∨ k ∈ bO ah) w v1) := zz (HUv0.out.below HBv1.out Hv0.out.lt)
 have qn_0 := kC HBv1.out q_l q_0
 have qn_1 := kC HBv1.out q_l q_1
 have qn_2 := kC HBv1.out q_l q_2
 have qn_3 := kC HBv1.out q_l q_3
 have qn_4 := kC HBv1.out q_l q_4
 have qn_l := Nat.lt_of_lt_of_le q_l HBv1.out.size
 clear q_0 q_1 q_2 q_3 q_4 q_l
 have HA2n := zz (HA2.out.keep HBv1.out)
 clear k_f k_l k_0 k_1 k_2 k_3 k_4 k_5 k_6 k_7 k_8 k_9 k_10 k_11 hv1 hSc1
 have k_0 := Hv1.out.e0
 have k_1 := Hv1.out.e1
 have k_2 := Hv1.out.e2
 have k_3 := Hv1.out.e3
 have k_4 := Hv1.out.e4
 have k_5 := Hv1.out.e5
 have k_6 := Hv1.out.e6
 have k_7 := Hv1.out.e7
 have k_8 := Hv1.out.e8
 have k_9 := Hv1.out.e9
 have k_10 := Hv1.out.e10
 have k_11 := Hv1.out.e11
 have k_f := Hv1.out.fz
 have k_l := Hv1.out.lt
 by_cases hin : s.top ≤ s.y ∧ s.y ≤ s.bot
 ·have HI : Hid (inB (s.y : Int) (s.top : Int) (s.bot : Int) = true) := zz (by simp only [inB, Bool.and_eq_true, decide_eq_true_eq]; omega)
  have htb := HOK.out.tb
  have hbh := HOK.out.bh
  obtain ⟨m, hmm⟩ := eX (min n (s.bot - s.y + 1))
  have hmi2 : min (n : Int) ((s.bot : Int) - (s.y : Int) + 1) = (m : Int) := by omega
  have hm10 : m ≤ 10 := by omega
  have HM := zz hmm
  have hwI : IntKind.i64.wrap ((s.bot : Int) - (s.y : Int)) = (s.bot : Int) - (s.y : Int) := iIq _
  have hwJ : IntKind.i64.wrap ((s.bot : Int) - (s.y : Int) + 1) = (s.bot : Int) - (s.y : Int) + 1 := iIq _
  have hwK : IntKind.i64.wrap (-(m : Int)) = -(m : Int) := iIq _
  have HIN := zz hin
  clear hin hmm
  go_upto_region 36 with fail
  have hSc2 := And.intro k_3 (And.intro k_5 k_6)
  refine rO (fun w' => w'.cell? ⟨b, 3, none⟩ = some (.int .i64 s.y) ∧ w'.cell? ⟨b, 5, none⟩ = some (.int .i64 s.top) ∧ w'.cell? ⟨b, 6, none⟩ = some (.int .i64 s.bot)) [] [0,1,2,3,4,5,6,7,8,9,10,11,12] ?_
  iterate 12 (first | refine oW (h := ?_) | refine oL (hS := hSc2) (h := ?_))
  refine oO (hS := .inr hSc2) (h := ?_)
  intro K' hK
  go_simp
  refine (lI _ _ _ _).mono ?_
  rw [HI.out]
  rintro e x1 ⟨rfl, rfl⟩
  refine oN hK (hS := .inr hSc2) (h := ?_)
  clear hK K'
  refine oD ?_
  obtain ⟨v2, hv2⟩ := eX (v1.drew)
  have HBv2 : Hid (Below v1.heap.size v1 v2) := zz (by rw [← hv2]; exact (Below.refl _ _).drew)
  rw [hv2]
  have hzv2 := HBv2.out.size
  have Hv2 := zz (Hv1.out.below HBv2.out)
  have HUv2 : Hid (Upd b 0 (0 + 12) (fun k => k = g ∨ k ∈ bO ah) w v2) := zz (HUv1.out.below HBv2.out Hv1.out.lt)
  have qnn_0 := kC HBv2.out qn_l qn_0
  have qnn_1 := kC HBv2.out qn_l qn_1
  have qnn_2 := kC HBv2.out qn_l qn_2
  have qnn_3 := kC HBv2.out qn_l qn_3
  have qnn_4 := kC HBv2.out qn_l qn_4
  have qnn_l := Nat.lt_of_lt_of_le qn_l HBv2.out.size
  clear qn_0 qn_1 qn_2 qn_3 qn_4 qn_l
  have HA2nn := zz (HA2n.out.keep HBv2.out)
  clear k_f k_l k_0 k_1 k_2 k_3 k_4 k_5 k_6 k_7 k_8 k_9 k_10 k_11 hv2 hSc2
  have k_0 := Hv2.out.e0
  have k_1 := Hv2.out.e1
  have k_2 := Hv2.out.e2
  have k_3 := Hv2.out.e3
  have k_4 := Hv2.out.e4
  have k_5 := Hv2.out.e5
  have k_6 := Hv2.out.e6
  have k_7 := Hv2.out.e7
  have k_8 := Hv2.out.e8
  have k_9 := Hv2.out.e9
  have k_10 := Hv2.out.e10
  have k_11 := Hv2.out.e11
  have k_f := Hv2.out.fz
  have k_l := Hv2.out.lt
  go_upto_region 37 with fail
  have hSc3 := And.intro k_3 k_6
  refine rO (fun w' => w'.cell? ⟨b, 3, none⟩ = some (.int .i64 s.y) ∧ w'.cell? ⟨b, 6, none⟩ = some (.int .i64 s.bot)) [] [0,1,2,3,4,5,6,7,8,9,10,11,12] ?_
  iterate 13 (first | refine oW (h := ?_) | refine oL (hS := hSc3) (h := ?_))
  refine oD ?_
  obtain ⟨v3, hv3⟩ := eX (v2.drew)
  have HBv3 : Hid (Below v2.heap.size v2 v3) := zz (by rw [← hv3]; exact (Below.refl _ _).drew)
  rw [hv3]
  have hzv3 := HBv3.out.size
  have Hv3 := zz (Hv2.out.below HBv3.out)
  have HUv3 : Hid (Upd b 0 (0 + 12) (fun k => k = g ∨ k ∈ bO ah) w v3) := zz (HUv2.out.below HBv3.out Hv2.out.lt)
  have qnnn_0 := kC HBv3.out qnn_l qnn_0
  have qnnn_1 := kC HBv3.out qnn_l qnn_1
  have qnnn_2 := kC HBv3.out qnn_l qnn_2
  have qnnn_3 := kC HBv3.out qnn_l qnn_3
  have qnnn_4 := kC HBv3.out qnn_l qnn_4
  have qnnn_l := Nat.lt_of_lt_of_le qnn_l HBv3.out.size
  clear qnn_0 qnn_1 qnn_2 qnn_3 qnn_4 qnn_l
  have HA2nnn := zz (HA2nn.out.keep HBv3.out)
  clear k_f k_l k_0 k_1 k_2 k_3 k_4 k_5 k_6 k_7 k_8 k_9 k_10 k_11 hv3 hSc3
  have k_0 := Hv3.out.e0
  have k_1 := Hv3.out.e1
  have k_2 := Hv3.out.e2
  have k_3 := Hv3.out.e3
  have k_4 := Hv3.out.e4
  have k_5 := Hv3.out.e5
  have k_6 := Hv3.out.e6
  have k_7 := Hv3.out.e7
  have k_8 := Hv3.out.e8
  have k_9 := Hv3.out.e9
  have k_10 := Hv3.out.e10
  have k_11 := Hv3.out.e11
  have k_f := Hv3.out.fz
  have k_l := Hv3.out.lt
  go_upto_region 40 with fail
  have hSc4 := And.intro k_3 k_6
  refine rO (fun w' => w'.cell? ⟨b, 3, none⟩ = some (.int .i64 s.y) ∧ w'.cell? ⟨b, 6, none⟩ = some (.int .i64 s.bot)) [] [0,1,2,3,4,5,6,7,8,9,10] ?_
  iterate 10 (first | refine oW (h := ?_) | refine oL (hS := hSc4) (h := ?_))
  refine oO (hS := .inr hSc4) (h := ?_)
  intro K' hK
  go_simp
  refine (Yh4 lo b s g cc ah dh _ s.y s.bot m Hv3.out.drew HOK.out HIN.out.2 HOK.out.bh hm10 (by show lo ≤ v3.heap.size; omega)).mono ?_
  rintro e x1 ⟨rfl, g1, cc1, ah1, dh1, ha, hu, hg, hh⟩
  have e1 := Zd2 false s.y s.bot s m
  have HX := zz ha
  have HR : Hid (Upd b 0 (0 + 12) (fun k => k = g ∨ k ∈ bO ah) w x1 ∧ (g1 = g ∨ w.heap.size ≤ g1) ∧ ∀ i ∈ bO ah1, i ∈ bO ah ∨ w.heap.size ≤ i) := zz (by
   obtain ⟨g2, c2, a2, d2, _⟩ : ∃ g2 c2 a2 d2, SA lo b 0 (scU false s.y s.bot m s) g2 c2 a2 d2 x1 := ⟨_, _, _, _, ha⟩
   refine ⟨HUv3.out.drew.transN hu (fun i hi => .inl hi), hg.imp id (fun h => by have : v3.heap.size ≤ g1 := h; omega), fun i hi => (hh i hi).imp id (fun h => by have : v3.heap.size ≤ i := h; omega)⟩)
  have hSx : x1.cell? ⟨b, 3, none⟩ = some (.int .i64 s.y) ∧ x1.cell? ⟨b, 6, none⟩ = some (.int .i64 s.bot) := ⟨by have := ha.c3; rw [e1.2.2.2.1] at this; exact this, by have := ha.c6; rw [e1.2.2.2.2.2.2.1] at this; exact this⟩
  have z_2 : x1.cell? ⟨b, 2, none⟩ = some (.int .i64 s.x) := by have := ha.c2; rw [e1.2.2.1] at this; exact this
  have z_f := ha.fz
  have z_l := ha.lt
  clear ha hu hg hh
  refine oN hK (hS := .inr hSx) (h := ?_)
  clear hK K'
  refine oD ?_
  go_wp2_with fail
  first | refine bodyPost_end (v := .tuple #[]) (by simp [results, Tryz.results82]) rfl ?_ | refine bodyPost_ret (v := .tuple #[]) (by simp [results, Tryz.results82]) rfl ?_
  refine ⟨rfl, ?_⟩
  unfold csiS
  rw [if_neg (by decide), if_neg (by decide), if_neg (by decide), if_neg (by decide), if_neg (by decide), if_neg (by decide), if_neg (by decide), if_neg (by decide), if_pos (by decide)]
  rw [if_pos HIN.out, HN.out, HM.out]
  exact sR.trans HX.out HR.out.1 HR.out.2.1 HR.out.2.2 (.mk (HX.out.setv2 0 rfl) (Upd.refl'.set2 _))
 ·have HI : Hid (inB (s.y : Int) (s.top : Int) (s.bot : Int) = false) := zz (by simp only [inB, Bool.and_eq_false_iff, decide_eq_false_iff_not]; omega)
  go_upto_region 36 with fail
  have hSc2 := And.intro k_3 (And.intro k_5 k_6)
  refine rO (fun w' => w'.cell? ⟨b, 3, none⟩ = some (.int .i64 s.y) ∧ w'.cell? ⟨b, 5, none⟩ = some (.int .i64 s.top) ∧ w'.cell? ⟨b, 6, none⟩ = some (.int .i64 s.bot)) [] [0,1,2,3,4,5,6,7,8,9,10,11,12] ?_
  iterate 12 (first | refine oW (h := ?_) | refine oL (hS := hSc2) (h := ?_))
  refine oO (hS := .inr hSc2) (h := ?_)
  intro K' hK
  go_simp
  refine (lI _ _ _ _).mono ?_
  rw [HI.out]
  rintro e x1 ⟨rfl, rfl⟩
  refine oN hK (hS := .inr hSc2) (h := ?_)
  clear hK K'
  refine oD ?_
  obtain ⟨v2, hv2⟩ := eX (v1.drew)
  have HBv2 : Hid (Below v1.heap.size v1 v2) := zz (by rw [← hv2]; exact (Below.refl _ _).drew)
  rw [hv2]
  have hzv2 := HBv2.out.size
  have Hv2 := zz (Hv1.out.below HBv2.out)
  have HUv2 : Hid (Upd b 0 (0 + 12) (fun k => k = g ∨ k ∈ bO ah) w v2) := zz (HUv1.out.below HBv2.out Hv1.out.lt)
  have qnn_0 := kC HBv2.out qn_l qn_0
  have qnn_1 := kC HBv2.out qn_l qn_1
  have qnn_2 := kC HBv2.out qn_l qn_2
  have qnn_3 := kC HBv2.out qn_l qn_3
  have qnn_4 := kC HBv2.out qn_l qn_4
  have qnn_l := Nat.lt_of_lt_of_le qn_l HBv2.out.size
  clear qn_0 qn_1 qn_2 qn_3 qn_4 qn_l
  have HA2nn := zz (HA2n.out.keep HBv2.out)
  clear k_f k_l k_0 k_1 k_2 k_3 k_4 k_5 k_6 k_7 k_8 k_9 k_10 k_11 hv2 hSc2
  have k_0 := Hv2.out.e0
  have k_1 := Hv2.out.e1
  have k_2 := Hv2.out.e2
  have k_3 := Hv2.out.e3
  have k_4 := Hv2.out.e4
  have k_5 := Hv2.out.e5
  have k_6 := Hv2.out.e6
  have k_7 := Hv2.out.e7
  have k_8 := Hv2.out.e8
  have k_9 := Hv2.out.e9
  have k_10 := Hv2.out.e10
  have k_11 := Hv2.out.e11
  have k_f := Hv2.out.fz
  have k_l := Hv2.out.lt
  go_wp2_with fail
  first | refine bodyPost_end (v := .tuple #[]) (by simp [results, Tryz.results82]) rfl ?_ | refine bodyPost_ret (v := .tuple #[]) (by simp [results, Tryz.results82]) rfl ?_
  refine ⟨rfl, ?_⟩
  unfold csiS
  rw [if_neg (by decide), if_neg (by decide), if_neg (by decide), if_neg (by decide), if_neg (by decide), if_neg (by decide), if_neg (by decide), if_neg (by decide), if_pos (by decide)]
  rw [if_neg hin]
  exact .mk Hv2.out HUv2.out
theorem csi83_c (lo b : Nat) (s : Scr) (g cc : Nat) (ah : Option Addr) (dh : Nat) (w : World) (kd : Int) (xs : List Int) (aa : Option Addr) (ca : Nat) (tx : ByteArray) (h : SA lo b 0 s g cc ah dh w) (ok : sK s) (hlo : lo ≤ w.heap.size) (ha : Sl iE 1 w aa xs) (hna : ∀ k ∈ bO aa, k ≠ b ∧ k ≠ g ∧ k ∉ bO ah) (hx8 : xs.length ≤ 8) (hxr : ∀ x ∈ xs, -1 ≤ x ∧ x ≤ 9999) :
 Calls Tryz.prog 82 #[.pointer (some ⟨b, 0, none⟩), .agg #[.int .i64 kd, .int .i64 83, .bool false, .slice aa xs.length ca, .string tx]] w fun e w' => e = .returned (.tuple #[]) ∧ sR lo b 0 (csiS s 83 xs) g ah w w' := by
 have HS := zz h
 have HOK := zz ok
 have HA := zz ha
 have HNA := zz hna
 have HXR := zz hxr
 have HX8 := zz hx8
 have hw1 := ok.w1
 have hw2 := ok.w2
 have hh1 := ok.h1
 have hh2 := ok.h2
 have hx := ok.hx
 have hy := ok.hy
 have hcur := ok.cur
 have hcn := ok.cn
 have hlt := h.lt
 obtain ⟨n, hn⟩ := eX (arg1 xs 0)
 obtain ⟨A0, hA0⟩ := eX (argA xs 0 1)
 have hAb : -1 ≤ A0 ∧ A0 ≤ 9999 := by rw [← hA0]; exact Za1 HXR.out (by omega) (by omega)
 have hm : max 1 A0 = (n : Int) := by rw [← hn, ← hA0]; unfold arg1; omega
 have hn1 : 1 ≤ n := by omega
 have hn2 : n ≤ 9999 := by omega
 have HN := zz hn
 have HA0 := zz hA0
 obtain ⟨p, hp⟩ := eX (s.y * s.w)
 obtain ⟨mx, hmx⟩ := eX (min s.x (s.w - 1))
 obtain ⟨cr, hcr⟩ := eX (curS s)
 obtain ⟨pn, hpn⟩ : ∃ q, (s.y + 1) * s.w = q := ⟨_, rfl⟩
 obtain ⟨nn, hnn⟩ := eX (s.w * s.h)
 obtain ⟨hpi, hpni, hnni, hmi, hcri, hn240⟩ := csP s hp hpn hnn hmx hcr hw1 hw2 hh2
 rw [hcr, hp, hpn, hnn] at hcur
 rw [hnn] at hcn
 obtain ⟨hc1, hc2, hc3⟩ := hcur
 have HCN := zz hcn
 have HP := zz hp
 have HMX := zz hmx
 have HCR := zz hcr
 have HPN := zz hpn
 have HNN := zz hnn
 obtain ⟨hwA, hwB, hwC, hwD, hwE, hwF, hwG⟩ := csW s p cr pn nn
 obtain ⟨ln, hln⟩ := eX (xs.length)
 have HLN := zz hln
 have HCALL : ∀ (i : Nat) (d : Int) (W : World), i ≤ 7 → Sl iE 1 W aa xs → Calls Tryz.prog 117 #[.agg #[.int .i64 kd, .int .i64 83, .bool false, .slice aa ln ca, .string tx], .int .i64 i, .int .i64 d] W fun e w' => e = .returned (.int .i64 (argA xs i d)) ∧ Below W.heap.size W w' := fun i d W hi hW => by
  rw [← hln]
  exact lA kd 83 false tx xs aa ca i d W hW hi hx8
 rw [hln]
 clear h ok ha hna hxr hx8 hn hA0 hp hmx hcr hpn hnn hcn hln
 go_enter Tryz.func82, Tryz.ntmps82
 go_wp2_with fail
 refine (HCALL 0 1 _ (by omega) (HA.out.alloc _)).mono ?_
 rintro e v0 ⟨rfl, hb0⟩
 rw [HA0.out]
 have HB0 : Hid (Below w.heap.size w v0) := zz (((Below.refl w.heap.size w).alloc (Nat.le_refl _) _).trans (hb0.mono (by simp)))
 have hz0 := HB0.out.size
 have q_l : w.heap.size < v0.heap.size := by have := hb0.size; simp at this; omega
 have q_0 : v0.cell? ⟨w.heap.size, 0, none⟩ = some (.int .i64 kd) := kC hb0 (by simp) (by simp [go_sem])
 have q_1 : v0.cell? ⟨w.heap.size, 1, none⟩ = some (.int .i64 83) := kC hb0 (by simp) (by simp [go_sem])
 have q_2 : v0.cell? ⟨w.heap.size, 2, none⟩ = some (.bool false) := kC hb0 (by simp) (by simp [go_sem])
 have q_3 : v0.cell? ⟨w.heap.size, 3, none⟩ = some (.slice aa ln ca) := kC hb0 (by simp) (by simp [go_sem])
 have q_4 : v0.cell? ⟨w.heap.size, 4, none⟩ = some (.string tx) := kC hb0 (by simp) (by simp [go_sem])
 clear hb0
 have q_b : ¬ w.heap.size = b := by omega
 have HA_nb : ∀ k ∈ bO aa, ¬ k = b := fun k hk => (HNA.out k hk).1
 have Hv0 := zz (HS.out.below HB0.out)
 have HA2 := zz (HA.out.keep HB0.out)
 have HUv0 : Hid (Upd b 0 (0 + 12) (fun k => k = g ∨ k ∈ bO ah) w v0) := zz (Upd.refl'.below HB0.out HS.out.lt)
 have HA2_nb := HA_nb
 have k_0 := Hv0.out.e0
 have k_1 := Hv0.out.e1
 have k_2 := Hv0.out.e2
 have k_3 := Hv0.out.e3
 have k_4 := Hv0.out.e4
 have k_5 := Hv0.out.e5
 have k_6 := Hv0.out.e6
 have k_7 := Hv0.out.e7
 have k_8 := Hv0.out.e8
 have k_9 := Hv0.out.e9
 have k_10 := Hv0.out.e10
 have k_11 := Hv0.out.e11
 have k_f := Hv0.out.fz
 have k_l := Hv0.out.lt
 go_upto_region 4 with fail
 have hSc1 := And.intro k_0 (And.intro k_2 k_3)
 refine rO (fun w' => w'.cell? ⟨b, 0, none⟩ = some (.int .i64 s.w) ∧ w'.cell? ⟨b, 2, none⟩ = some (.int .i64 s.x) ∧ w'.cell? ⟨b, 3, none⟩ = some (.int .i64 s.y)) [] [0,1,2,3,4,5,6,7,8,9,10,11,12,13,14,15,16,17,18,19,20] ?_
 iterate 21 (first | refine oW (h := ?_) | refine oL (hS := hSc1) (h := ?_))
 refine oD ?_
 obtain ⟨v1, hv1⟩ := eX (v0.drew)
 have HBv1 : Hid (Below v0.heap.size v0 v1) := zz (by rw [← hv1]; exact (Below.refl _ _).drew)
 rw [hv1]
 have hzv1 := HBv1.out.size
 have Hv1 := zz (Hv0.out.below HBv1.out)
 have HUv1 : Hid (Upd b 0 (0 + 12) (fun k => k = g ∨ k ∈ bO ah) w v1) := zz (HUv0.out.below HBv1.out Hv0.out.lt)
 have qn_0 := kC HBv1.out q_l q_0
 have qn_1 := kC HBv1.out q_l q_1
 have qn_2 := kC HBv1.out q_l q_2
 have qn_3 := kC HBv1.out q_l q_3
 have qn_4 := kC HBv1.out q_l q_4
 have qn_l := Nat.lt_of_lt_of_le q_l HBv1.out.size
 clear q_0 q_1 q_2 q_3 q_4 q_l
 have HA2n := zz (HA2.out.keep HBv1.out)
 clear k_f k_l k_0 k_1 k_2 k_3 k_4 k_5 k_6 k_7 k_8 k_9 k_10 k_11 hv1 hSc1
 have k_0 := Hv1.out.e0
 have k_1 := Hv1.out.e1
 have k_2 := Hv1.out.e2
 have k_3 := Hv1.out.e3
 have k_4 := Hv1.out.e4
 have k_5 := Hv1.out.e5
 have k_6 := Hv1.out.e6
 have k_7 := Hv1.out.e7
 have k_8 := Hv1.out.e8
 have k_9 := Hv1.out.e9
 have k_10 := Hv1.out.e10
 have k_11 := Hv1.out.e11
 have k_f := Hv1.out.fz
 have k_l := Hv1.out.lt
 have htb := HOK.out.tb
 have hbh := HOK.out.bh
 obtain ⟨m, hmm⟩ := eX (min n (s.bot - s.top + 1))
 have hmi2 : min (n : Int) ((s.bot : Int) - (s.top : Int) + 1) = (m : Int) := by omega
 have hm10 : m ≤ 10 := by omega
 have HM := zz hmm
 have hwI : IntKind.i64.wrap ((s.bot : Int) - (s.top : Int)) = (s.bot : Int) - (s.top : Int) := iIq _
 have hwJ : IntKind.i64.wrap ((s.bot : Int) - (s.top : Int) + 1) = (s.bot : Int) - (s.top : Int) + 1 := iIq _
 have hwK : IntKind.i64.wrap (-(m : Int)) = -(m : Int) := iIq _
 clear hmm
 go_upto_region 43 with fail
 have hSc2 := And.intro k_5 k_6
 refine rO (fun w' => w'.cell? ⟨b, 5, none⟩ = some (.int .i64 s.top) ∧ w'.cell? ⟨b, 6, none⟩ = some (.int .i64 s.bot)) [] [0,1,2,3,4,5,6,7,8,9,10,11,12,13,14,15,16,17,18,19,20,21] ?_
 iterate 21 (first | refine oW (h := ?_) | refine oL (hS := hSc2) (h := ?_))
 refine oO (hS := .inr hSc2) (h := ?_)
 intro K' hK
 go_simp
 refine (Zk8 lo b s g cc ah dh _ s.top s.bot m Hv1.out.drew HOK.out (Nat.le_of_lt HOK.out.tb) HOK.out.bh hm10 (by show lo ≤ v1.heap.size; omega)).mono ?_
 rintro e x1 ⟨rfl, hr, _⟩
 have HR : Hid (sR lo b 0 (scU true s.top s.bot m s) g ah w x1) := zz (sR.trans Hv1.out.drew HUv1.out.drew (.inl rfl) (fun _ h => .inl h) hr)
 have e1 := Zd2 true s.top s.bot s m
 obtain ⟨g1, cc1, ah1, dh1, ha, _⟩ := hr
 have hSx : x1.cell? ⟨b, 5, none⟩ = some (.int .i64 s.top) ∧ x1.cell? ⟨b, 6, none⟩ = some (.int .i64 s.bot) := ⟨by have := ha.c5; rw [e1.2.2.2.2.2.1] at this; exact this, by have := ha.c6; rw [e1.2.2.2.2.2.2.1] at this; exact this⟩
 clear ha
 refine oN hK (hS := .inr hSx) (h := ?_)
 clear hK K'
 refine oD ?_
 go_wp2_with fail
 first | refine bodyPost_end (v := .tuple #[]) (by simp [results, Tryz.results82]) rfl ?_ | refine bodyPost_ret (v := .tuple #[]) (by simp [results, Tryz.results82]) rfl ?_
 refine ⟨rfl, ?_⟩
 unfold csiS
 rw [if_neg (by decide), if_neg (by decide), if_neg (by decide), if_neg (by decide), if_neg (by decide), if_neg (by decide), if_neg (by decide), if_neg (by decide), if_neg (by decide), if_pos (by decide)]
 rw [HN.out, HM.out]
 exact HR.out
theorem csi84_c (lo b : Nat) (s : Scr) (g cc : Nat) (ah : Option Addr) (dh : Nat) (w : World) (kd : Int) (xs : List Int) (aa : Option Addr) (ca : Nat) (tx : ByteArray) (h : SA lo b 0 s g cc ah dh w) (ok : sK s) (hlo : lo ≤ w.heap.size) (ha : Sl iE 1 w aa xs) (hna : ∀ k ∈ bO aa, k ≠ b ∧ k ≠ g ∧ k ∉ bO ah) (hx8 : xs.length ≤ 8) (hxr : ∀ x ∈ xs, -1 ≤ x ∧ x ≤ 9999) :
 Calls Tryz.prog 82 #[.pointer (some ⟨b, 0, none⟩), .agg #[.int .i64 kd, .int .i64 84, .bool false, .slice aa xs.length ca, .string tx]] w fun e w' => e = .returned (.tuple #[]) ∧ sR lo b 0 (csiS s 84 xs) g ah w w' := by
 have HS := zz h
 have HOK := zz ok
 have HA := zz ha
 have HNA := zz hna
 have HXR := zz hxr
 have HX8 := zz hx8
 have hw1 := ok.w1
 have hw2 := ok.w2
 have hh1 := ok.h1
 have hh2 := ok.h2
 have hx := ok.hx
 have hy := ok.hy
 have hcur := ok.cur
 have hcn := ok.cn
 have hlt := h.lt
 obtain ⟨n, hn⟩ := eX (arg1 xs 0)
 obtain ⟨A0, hA0⟩ := eX (argA xs 0 1)
 have hAb : -1 ≤ A0 ∧ A0 ≤ 9999 := by rw [← hA0]; exact Za1 HXR.out (by omega) (by omega)
 have hm : max 1 A0 = (n : Int) := by rw [← hn, ← hA0]; unfold arg1; omega
 have hn1 : 1 ≤ n := by omega
 have hn2 : n ≤ 9999 := by omega
 have HN := zz hn
 have HA0 := zz hA0
 obtain ⟨p, hp⟩ := eX (s.y * s.w)
 obtain ⟨mx, hmx⟩ := eX (min s.x (s.w - 1))
 obtain ⟨cr, hcr⟩ := eX (curS s)
 obtain ⟨pn, hpn⟩ : ∃ q, (s.y + 1) * s.w = q := ⟨_, rfl⟩
 obtain ⟨nn, hnn⟩ := eX (s.w * s.h)
 obtain ⟨hpi, hpni, hnni, hmi, hcri, hn240⟩ := csP s hp hpn hnn hmx hcr hw1 hw2 hh2
 rw [hcr, hp, hpn, hnn] at hcur
 rw [hnn] at hcn
 obtain ⟨hc1, hc2, hc3⟩ := hcur
 have HCN := zz hcn
 have HP := zz hp
 have HMX := zz hmx
 have HCR := zz hcr
 have HPN := zz hpn
 have HNN := zz hnn
 obtain ⟨hwA, hwB, hwC, hwD, hwE, hwF, hwG⟩ := csW s p cr pn nn
 obtain ⟨ln, hln⟩ := eX (xs.length)
 have HLN := zz hln
 have HCALL : ∀ (i : Nat) (d : Int) (W : World), i ≤ 7 → Sl iE 1 W aa xs → Calls Tryz.prog 117 #[.agg #[.int .i64 kd, .int .i64 84, .bool false, .slice aa ln ca, .string tx], .int .i64 i, .int .i64 d] W fun e w' => e = .returned (.int .i64 (argA xs i d)) ∧ Below W.heap.size W w' := fun i d W hi hW => by
  rw [← hln]
  exact lA kd 84 false tx xs aa ca i d W hW hi hx8
 rw [hln]
 clear h ok ha hna hxr hx8 hn hA0 hp hmx hcr hpn hnn hcn hln
 go_enter Tryz.func82, Tryz.ntmps82
 go_wp2_with fail
 refine (HCALL 0 1 _ (by omega) (HA.out.alloc _)).mono ?_
 rintro e v0 ⟨rfl, hb0⟩
 rw [HA0.out]
 have HB0 : Hid (Below w.heap.size w v0) := zz (((Below.refl w.heap.size w).alloc (Nat.le_refl _) _).trans (hb0.mono (by simp)))
 have hz0 := HB0.out.size
 have q_l : w.heap.size < v0.heap.size := by have := hb0.size; simp at this; omega
 have q_0 : v0.cell? ⟨w.heap.size, 0, none⟩ = some (.int .i64 kd) := kC hb0 (by simp) (by simp [go_sem])
 have q_1 : v0.cell? ⟨w.heap.size, 1, none⟩ = some (.int .i64 84) := kC hb0 (by simp) (by simp [go_sem])
 have q_2 : v0.cell? ⟨w.heap.size, 2, none⟩ = some (.bool false) := kC hb0 (by simp) (by simp [go_sem])
 have q_3 : v0.cell? ⟨w.heap.size, 3, none⟩ = some (.slice aa ln ca) := kC hb0 (by simp) (by simp [go_sem])
 have q_4 : v0.cell? ⟨w.heap.size, 4, none⟩ = some (.string tx) := kC hb0 (by simp) (by simp [go_sem])
 clear hb0
 have q_b : ¬ w.heap.size = b := by omega
 have HA_nb : ∀ k ∈ bO aa, ¬ k = b := fun k hk => (HNA.out k hk).1
 have Hv0 := zz (HS.out.below HB0.out)
 have HA2 := zz (HA.out.keep HB0.out)
 have HUv0 : Hid (Upd b 0 (0 + 12) (fun k => k = g ∨ k ∈ bO ah) w v0) := zz (Upd.refl'.below HB0.out HS.out.lt)
 have HA2_nb := HA_nb
 have k_0 := Hv0.out.e0
 have k_1 := Hv0.out.e1
 have k_2 := Hv0.out.e2
 have k_3 := Hv0.out.e3
 have k_4 := Hv0.out.e4
 have k_5 := Hv0.out.e5
 have k_6 := Hv0.out.e6
 have k_7 := Hv0.out.e7
 have k_8 := Hv0.out.e8
 have k_9 := Hv0.out.e9
 have k_10 := Hv0.out.e10
 have k_11 := Hv0.out.e11
 have k_f := Hv0.out.fz
 have k_l := Hv0.out.lt
 go_upto_region 4 with fail
 have hSc1 := And.intro k_0 (And.intro k_2 k_3)
 refine rO (fun w' => w'.cell? ⟨b, 0, none⟩ = some (.int .i64 s.w) ∧ w'.cell? ⟨b, 2, none⟩ = some (.int .i64 s.x) ∧ w'.cell? ⟨b, 3, none⟩ = some (.int .i64 s.y)) [] [0,1,2,3,4,5,6,7,8,9,10,11,12,13,14,15,16,17,18,19,20] ?_
 iterate 21 (first | refine oW (h := ?_) | refine oL (hS := hSc1) (h := ?_))
 refine oD ?_
 obtain ⟨v1, hv1⟩ := eX (v0.drew)
 have HBv1 : Hid (Below v0.heap.size v0 v1) := zz (by rw [← hv1]; exact (Below.refl _ _).drew)
 rw [hv1]
 have hzv1 := HBv1.out.size
 have Hv1 := zz (Hv0.out.below HBv1.out)
 have HUv1 : Hid (Upd b 0 (0 + 12) (fun k => k = g ∨ k ∈ bO ah) w v1) := zz (HUv0.out.below HBv1.out Hv0.out.lt)
 have qn_0 := kC HBv1.out q_l q_0
 have qn_1 := kC HBv1.out q_l q_1
 have qn_2 := kC HBv1.out q_l q_2
 have qn_3 := kC HBv1.out q_l q_3
 have qn_4 := kC HBv1.out q_l q_4
 have qn_l := Nat.lt_of_lt_of_le q_l HBv1.out.size
 clear q_0 q_1 q_2 q_3 q_4 q_l
 have HA2n := zz (HA2.out.keep HBv1.out)
 clear k_f k_l k_0 k_1 k_2 k_3 k_4 k_5 k_6 k_7 k_8 k_9 k_10 k_11 hv1 hSc1
 have k_0 := Hv1.out.e0
 have k_1 := Hv1.out.e1
 have k_2 := Hv1.out.e2
 have k_3 := Hv1.out.e3
 have k_4 := Hv1.out.e4
 have k_5 := Hv1.out.e5
 have k_6 := Hv1.out.e6
 have k_7 := Hv1.out.e7
 have k_8 := Hv1.out.e8
 have k_9 := Hv1.out.e9
 have k_10 := Hv1.out.e10
 have k_11 := Hv1.out.e11
 have k_f := Hv1.out.fz
 have k_l := Hv1.out.lt
 have htb := HOK.out.tb
 have hbh := HOK.out.bh
 obtain ⟨m, hmm⟩ := eX (min n (s.bot - s.top + 1))
 have hmi2 : min (n : Int) ((s.bot : Int) - (s.top : Int) + 1) = (m : Int) := by omega
 have hm10 : m ≤ 10 := by omega
 have HM := zz hmm
 have hwI : IntKind.i64.wrap ((s.bot : Int) - (s.top : Int)) = (s.bot : Int) - (s.top : Int) := iIq _
 have hwJ : IntKind.i64.wrap ((s.bot : Int) - (s.top : Int) + 1) = (s.bot : Int) - (s.top : Int) + 1 := iIq _
 have hwK : IntKind.i64.wrap (-(m : Int)) = -(m : Int) := iIq _
 clear hmm
 go_upto_region 45 with fail
 have hSc2 := And.intro k_5 k_6
 refine rO (fun w' => w'.cell? ⟨b, 5, none⟩ = some (.int .i64 s.top) ∧ w'.cell? ⟨b, 6, none⟩ = some (.int .i64 s.bot)) [] [0,1,2,3,4,5,6,7,8,9,10,11,12,13,14,15,16,17,18,19,20,21,22] ?_
 iterate 22 (first | refine oW (h := ?_) | refine oL (hS := hSc2) (h := ?_))
 refine oO (hS := .inr hSc2) (h := ?_)
 intro K' hK
 go_simp
 refine (Zk2 lo b s g cc ah dh _ s.top s.bot m Hv1.out.drew HOK.out (Nat.le_of_lt HOK.out.tb) HOK.out.bh hm10).mono ?_
 rintro e x1 ⟨rfl, ha, hc⟩
 have HR : Hid (sR lo b 0 (scD s.top s.bot m s) g ah w x1) := zz (.mk ha (HUv1.out.drew.transN (Upd.ofCh (S := fun i => i = g) hc Hv1.out.lt (fun e => HS.out.gb e.symm) (fun i hi => .inl hi)) (fun i hi => .inl (.inl hi))))
 have e1 := Zc2 s.top s.bot s m
 have hSx : x1.cell? ⟨b, 5, none⟩ = some (.int .i64 s.top) ∧ x1.cell? ⟨b, 6, none⟩ = some (.int .i64 s.bot) := ⟨by have := ha.c5; rw [e1.2.2.2.2.2.1] at this; exact this, by have := ha.c6; rw [e1.2.2.2.2.2.2.1] at this; exact this⟩
 clear ha hc
 refine oN hK (hS := .inr hSx) (h := ?_)
 clear hK K'
 refine oD ?_
 go_wp2_with fail
 first | refine bodyPost_end (v := .tuple #[]) (by simp [results, Tryz.results82]) rfl ?_ | refine bodyPost_ret (v := .tuple #[]) (by simp [results, Tryz.results82]) rfl ?_
 refine ⟨rfl, ?_⟩
 unfold csiS
 rw [if_neg (by decide), if_neg (by decide), if_neg (by decide), if_neg (by decide), if_neg (by decide), if_neg (by decide), if_neg (by decide), if_neg (by decide), if_neg (by decide), if_neg (by decide), if_pos (by decide)]
 rw [HN.out, HM.out]
 exact HR.out
end
section
theorem csiP_c (lo b : Nat) (s : Scr) (g cc : Nat) (ah : Option Addr) (dh : Nat) (w : World) (kd c : Int) (xs : List Int) (aa : Option Addr) (ca : Nat) (tx : ByteArray) (h : SA lo b 0 s g cc ah dh w) :
 Calls Tryz.prog 82 #[.pointer (some ⟨b, 0, none⟩), .agg #[.int .i64 kd, .int .i64 c, .bool true, .slice aa xs.length ca, .string tx]] w fun e w' => e = .returned (.tuple #[]) ∧ sR lo b 0 s g ah w w' := by
 have HS := zz h
 obtain ⟨ln, hln⟩ := eX (xs.length)
 rw [hln]
 clear h hln
 go_enter Tryz.func82, Tryz.ntmps82
 go_wp2_with fail
 refine bodyPost_ret (v := .tuple #[]) (by simp [results, Tryz.results82]) rfl ?_
 exact ⟨rfl, .mk (HS.out.alloc _) (Upd.refl'.below (bA) HS.out.lt)⟩
theorem scsi_c (lo b : Nat) (s : Scr) (g cc : Nat) (ah : Option Addr) (dh : Nat) (w : World) (kd c : Int) (pv : Bool) (xs : List Int) (aa : Option Addr) (ca : Nat) (tx : ByteArray) (h : SA lo b 0 s g cc ah dh w) (ok : sK s) (hlo : lo ≤ w.heap.size) (ha : Sl iE 1 w aa xs) (hna : ∀ k ∈ bO aa, k ≠ b ∧ k ≠ g ∧ k ∉ bO ah) (hx8 : xs.length ≤ 8) (hxr : ∀ x ∈ xs, -1 ≤ x ∧ x ≤ 9999) :
 Calls Tryz.prog 82 #[.pointer (some ⟨b, 0, none⟩), .agg #[.int .i64 kd, .int .i64 c, .bool pv, .slice aa xs.length ca, .string tx]] w fun e w' => e = .returned (.tuple #[]) ∧ sR lo b 0 (if pv = true then s else csiS s c xs) g ah w w' := by
 cases pv with
 | true => exact csiP_c lo b s g cc ah dh w kd c xs aa ca tx h
 | false =>
   rw [if_neg (by decide)]
   by_cases h65 : c = 65
   ·subst h65; exact csi65_c lo b s g cc ah dh w kd xs aa ca tx h ok hlo ha hna hx8 hxr
   by_cases h66 : c = 66
   ·subst h66; exact csi66_c lo b s g cc ah dh w kd xs aa ca tx h ok hlo ha hna hx8 hxr
   by_cases h67 : c = 67
   ·subst h67; exact csi67_c lo b s g cc ah dh w kd xs aa ca tx h ok hlo ha hna hx8 hxr
   by_cases h68 : c = 68
   ·subst h68; exact csi68_c lo b s g cc ah dh w kd xs aa ca tx h ok hlo ha hna hx8 hxr
   by_cases h72 : c = 72
   ·subst h72; exact csi72_c lo b s g cc ah dh w kd xs aa ca tx h ok hlo ha hna hx8 hxr
   by_cases h102 : c = 102
   ·subst h102; exact csi102_c lo b s g cc ah dh w kd xs aa ca tx h ok hlo ha hna hx8 hxr
   by_cases h74 : c = 74
   ·subst h74; exact csi74_c lo b s g cc ah dh w kd xs aa ca tx h ok hlo ha hna hx8 hxr
   by_cases h75 : c = 75
   ·subst h75; exact csi75_c lo b s g cc ah dh w kd xs aa ca tx h ok hlo ha hna hx8 hxr
   by_cases h76 : c = 76
   ·subst h76; exact csi76_c lo b s g cc ah dh w kd xs aa ca tx h ok hlo ha hna hx8 hxr
   by_cases h77 : c = 77
   ·subst h77; exact csi77_c lo b s g cc ah dh w kd xs aa ca tx h ok hlo ha hna hx8 hxr
   by_cases h83 : c = 83
   ·subst h83; exact csi83_c lo b s g cc ah dh w kd xs aa ca tx h ok hlo ha hna hx8 hxr
   by_cases h84 : c = 84
   ·subst h84; exact csi84_c lo b s g cc ah dh w kd xs aa ca tx h ok hlo ha hna hx8 hxr
   by_cases h109 : c = 109
   ·subst h109; exact csi109_c lo b s g cc ah dh w kd xs aa ca tx h ok hlo ha hna hx8 hxr
   by_cases h114 : c = 114
   ·subst h114; exact csi114_c lo b s g cc ah dh w kd xs aa ca tx h ok hlo ha hna hx8 hxr
   refine csix_c lo b s g cc ah dh w kd xs aa ca tx c (fun v hv => ?_) h ok hlo ha hna hx8 hxr
   simp only [List.mem_cons, List.not_mem_nil, or_false] at hv
   rcases hv with rfl | rfl | rfl | rfl | rfl | rfl | rfl | rfl | rfl | rfl | rfl | rfl | rfl | rfl <;> assumption
theorem AcOK.xs4 {n : Int} {pv : Bool} {xs : List Int} {tx : ByteArray} (h : AcOK ⟨4, n, pv, xs, tx⟩) : xs.length ≤ 8 ∧ ∀ x ∈ xs, -1 ≤ x ∧ x ≤ 9999 := by
 rcases h with ⟨_, _, h, _⟩ | ⟨_, h, _⟩
 ·simp only [argsB, Bool.and_eq_true, decide_eq_true_eq, List.all_eq_true] at h
  exact ⟨h.1.2, h.2⟩
 ·simp only at h
  subst h
  exact ⟨by decide, by simp⟩
theorem do_c (lo b : Nat) (s : Scr) (g cc : Nat) (ah : Option Addr) (dh : Nat) (w : World) (a : AV) (aa : Option Addr) (ca : Nat) (h : SA lo b 0 s g cc ah dh w) (ok : sK s) (hlo : lo ≤ w.heap.size) (hac : AcOK a) (ha : Sl iE 1 w aa a.args) (hna : ∀ k ∈ bO aa, k ≠ b ∧ k ≠ g ∧ k ∉ bO ah) :
 Calls Tryz.prog 40 #[.pointer (some ⟨b, 0, none⟩), .agg #[.int .i64 a.kind, .int .i64 a.n, .bool a.priv, .slice aa a.args.length ca, .string a.text]] w fun e w' => e = .returned (.tuple #[]) ∧ sR lo b 0 (actS s a) g ah w w' := by
 obtain ⟨kd, n, pv, xs, tx⟩ := a
 have HOK := zz ok
 obtain ⟨w1, hw1⟩ := eX (w.alloc (.cells #[.int .i64 kd, .int .i64 n, .bool pv, .slice aa xs.length ca, .string tx] 38))
 have HB1 : Hid (Below w.heap.size w w1) := zz (by rw [← hw1]; exact bA)
 have hz1 := HB1.out.size
 have HS1 := zz (h.below HB1.out)
 have HU1 : Hid (Upd b 0 (0 + 12) (fun k => k = g ∨ k ∈ bO ah) w w1) := zz (Upd.refl'.below HB1.out h.lt)
 have HA1 := zz (ha.keep HB1.out)
 have HNA := zz hna
 have q_0 : w1.cell? ⟨w.heap.size, 0, none⟩ = some (.int .i64 kd) := by rw [← hw1]; simp [go_sem]
 have q_1 : w1.cell? ⟨w.heap.size, 1, none⟩ = some (.int .i64 n) := by rw [← hw1]; simp [go_sem]
 have q_2 : w1.cell? ⟨w.heap.size, 2, none⟩ = some (.bool pv) := by rw [← hw1]; simp [go_sem]
 have q_3 : w1.cell? ⟨w.heap.size, 3, none⟩ = some (.slice aa xs.length ca) := by rw [← hw1]; simp [go_sem]
 have q_4 : w1.cell? ⟨w.heap.size, 4, none⟩ = some (.string tx) := by rw [← hw1]; simp [go_sem]
 have hAC : Hid (AcOK ⟨kd, n, pv, xs, tx⟩) := zz hac
 have hlo1 : lo ≤ w1.heap.size := by omega
 clear h ok ha hna hac
 by_cases hk1 : kd = 1
 ·subst hk1
  go_enter Tryz.func40, Tryz.ntmps40
  go_upto_region 1 with fail
  go_wp2_with fail
  refine (print_c lo b s g cc ah dh _ n HS1.out HOK.out hlo1).mono ?_
  rintro e x1 ⟨rfl, hr⟩
  have HR := zz hr
  clear hr
  go_wp2_with fail
  refine bodyPost_end (v := .tuple #[]) (by simp [results, Tryz.results40]) rfl ?_
  refine ⟨rfl, sR.trans HS1.out HU1.out (.inl rfl) (fun _ h => .inl h) ?_⟩
  unfold actS
  rw [if_pos rfl]
  exact HR.out
 by_cases hk2 : kd = 2
 ·subst hk2
  go_enter Tryz.func40, Tryz.ntmps40
  go_upto_region 1 with fail
  go_wp2_with fail
  refine (Yg8 lo b s g cc ah dh _ n HS1.out HOK.out hlo1).mono ?_
  rintro e x1 ⟨rfl, hr⟩
  have HR := zz hr
  clear hr
  go_wp2_with fail
  refine bodyPost_end (v := .tuple #[]) (by simp [results, Tryz.results40]) rfl ?_
  refine ⟨rfl, sR.trans HS1.out HU1.out (.inl rfl) (fun _ h => .inl h) ?_⟩
  unfold actS
  rw [if_neg (by show ¬ (2 : Int) = 1; decide), if_pos rfl]
  exact HR.out
 by_cases hk3 : kd = 3
 ·subst hk3
  go_enter Tryz.func40, Tryz.ntmps40
  go_upto_region 1 with fail
  go_wp2_with fail
  refine (escape_c lo b s g cc ah dh _ n HS1.out HOK.out hlo1).mono ?_
  rintro e x1 ⟨rfl, hr⟩
  have HR := zz hr
  clear hr
  go_wp2_with fail
  refine bodyPost_end (v := .tuple #[]) (by simp [results, Tryz.results40]) rfl ?_
  refine ⟨rfl, sR.trans HS1.out HU1.out (.inl rfl) (fun _ h => .inl h) ?_⟩
  unfold actS
  rw [if_neg (by show ¬ (3 : Int) = 1; decide), if_neg (by show ¬ (3 : Int) = 2; decide), if_pos rfl]
  exact HR.out
 by_cases hk4 : kd = 4
 ·subst hk4
  go_enter Tryz.func40, Tryz.ntmps40
  go_upto_region 1 with fail
  go_wp2_with fail
  refine (scsi_c lo b s g cc ah dh _ 4 n pv xs aa ca tx HS1.out HOK.out hlo1 HA1.out HNA.out (AcOK.xs4 hAC.out).1 (AcOK.xs4 hAC.out).2).mono ?_
  rintro e x1 ⟨rfl, hr⟩
  have HR := zz hr
  clear hr
  go_wp2_with fail
  refine bodyPost_end (v := .tuple #[]) (by simp [results, Tryz.results40]) rfl ?_
  refine ⟨rfl, sR.trans HS1.out HU1.out (.inl rfl) (fun _ h => .inl h) ?_⟩
  unfold actS
  rw [if_neg (by show ¬ (4 : Int) = 1; decide), if_neg (by show ¬ (4 : Int) = 2; decide), if_neg (by show ¬ (4 : Int) = 3; decide), if_pos rfl]
  exact HR.out
 by_cases hk5 : kd = 5
 ·subst hk5
  go_enter Tryz.func40, Tryz.ntmps40
  go_upto_region 1 with fail
  have k_9 := HS1.out.c9
  have k_f := HS1.out.fz
  have k_l := HS1.out.lt
  go_wp2_with fail
  refine bodyPost_end (v := .tuple #[]) (by simp [results, Tryz.results40]) rfl ?_
  refine ⟨rfl, ?_⟩
  unfold actS
  rw [if_neg (by show ¬ (5 : Int) = 1; decide), if_neg (by show ¬ (5 : Int) = 2; decide), if_neg (by show ¬ (5 : Int) = 3; decide), if_neg (by show ¬ (5 : Int) = 4; decide), if_pos rfl]
  exact .mk (HS1.out.set9 tx) (HU1.out.set9 _)
 rcases hAC.out with ⟨hk, _⟩ | ⟨_, _, ⟨hk, _⟩ | ⟨_, ⟨hk, _⟩ | ⟨hk, _⟩ | ⟨hk, _⟩⟩⟩
 ·exact absurd hk hk4
 ·exact absurd hk hk5
 ·exact absurd hk hk1
 ·exact absurd hk hk2
 ·exact absurd hk hk3
end
section
structure Bx (w : World) (b : Nat) (vs : List Value) : Prop where
 cs : ∀ j v, vs[j]? = some v → w.cell? ⟨b, j, none⟩ = some v
 lt : b < w.heap.size
 fz : ∀ o, w.frozen? ⟨b, o, none⟩ = false
section
variable {w w' : World} {b : Nat} {vs : List Value} {M : Nat → Prop}
theorem Bx.c (h : Bx w b vs) (j : Nat) {v : Value} (hj : vs[j]? = some v := by rfl) : w.cell? ⟨b, j, none⟩ = some v := h.cs j v hj
theorem Bx.below (h : Bx w b vs) (k : Below w.heap.size w w') : Bx w' b vs :=
 ⟨fun j v hv => (k.cell (p := ⟨b, j, none⟩) h.lt).trans (h.cs j v hv), Nat.lt_of_lt_of_le h.lt k.size, fun o => (k.frozen (p := ⟨b, o, none⟩) h.lt).trans (h.fz o)⟩
theorem Bx.ch (h : Bx w b vs) (k : Ch M w w') (hM : ¬ M b) : Bx w' b vs :=
 ⟨fun j v hv => (k.cell (p := ⟨b, j, none⟩) h.lt hM).trans (h.cs j v hv), Nat.lt_of_lt_of_le h.lt k.size, fun o => (k.frozen (p := ⟨b, o, none⟩) h.lt hM).trans (h.fz o)⟩
theorem Bx.drew (h : Bx w b vs) : Bx w.drew b vs := h.below ((Below.refl _ _).drew)
theorem Bx.alloc1 (h : Bx w b vs) (x : Obj) : Bx (w.alloc x) b vs := h.below (bA)
theorem Bx.new (w : World) (vs : List Value) (T : TypeId) : Bx (w.alloc (.cells vs.toArray T)) w.heap.size vs := by
 refine ⟨fun j v hv => ?_, by simp, fun o => by simp [go_sem]⟩
 rw [cell_of_row _ w.heap.size j vs.toArray T (0, 0) (heap_alloc_new w _)]
 simpa using hv
theorem Bx.set (h : Bx w b vs) (k : Nat) (v : Value) (hk : k < vs.length := by simp) : Bx (w.setCell ⟨b, k, none⟩ v) b (vs.set k v) := by
 refine ⟨fun j u hu => ?_, by simpa [World.setCell] using h.lt, fun o => (World.frozen?_setCell _ _ _ _).trans (h.fz o)⟩
 by_cases hj : k = j
 ·subst hj
  rw [List.getElem?_set_self hk] at hu
  cases hu
  exact World.cell?_setCell_same _ _ _ (h.cs k _ (List.getElem?_eq_getElem hk))
 ·rw [List.getElem?_set_ne hj] at hu
  exact sO (h.cs j u hu)
theorem Bx.other (h : Bx w b vs) (b' k : Nat) (v : Value) (hb : b ≠ b') : Bx (w.setCell ⟨b', k, none⟩ v) b vs :=
 ⟨fun j u hu => (World.cell?_setCell_other _ _ _ _ (fun e => by injection e with e1 _; exact hb e1.symm)).trans (h.cs j u hu), by simpa [World.setCell] using h.lt, fun o => (World.frozen?_setCell _ _ _ _).trans (h.fz o)⟩
theorem Bx.eqv {us : List Value} (h : Bx w b vs) (e : vs = us) : Bx w b us := e ▸ h
end
end
section
theorem Zz8 (lo b o : Nat) (s : Scr) (g cc : Nat) (ah : Option Addr) (dh : Nat) (w : World) (a : AV) (aa : Option Addr) (ca : Nat) (h : SA lo b o s g cc ah dh w) (ok : sK s) (hlo : lo ≤ w.heap.size) (hac : AcOK a) (ha : Sl iE 1 w aa a.args) (hna : ∀ k ∈ bO aa, k ≠ b ∧ k ≠ g ∧ k ∉ bO ah) :
 Calls Tryz.prog 37 #[.pointer (some ⟨b, o, none⟩), .agg #[.int .i64 a.kind, .int .i64 a.n, .bool a.priv, .slice aa a.args.length ca, .string a.text]] w fun e w' => e = .returned (.tuple #[]) ∧ sR lo b o (actI s a) g ah w w' := by
 obtain ⟨kd, n, pv, xs, tx⟩ := a
 have HS := zz h
 have HOK := zz ok
 have HA := zz ha
 have HNA := zz hna
 have HAC := zz hac
 obtain ⟨ln, hln⟩ := eX (xs.length)
 have HLN := zz hln
 simp only at ha
 simp only [hln]
 have hlt := h.lt
 clear h ok ha hna hac hln
 by_cases h1 : kd = 1
 ·subst h1
  go_enter Tryz.func37, Tryz.ntmps37
  go_upto_region 1 with fail
  obtain ⟨x0, hx0⟩ := eX (w.alloc (.cells #[.int .i64 1, .int .i64 n, .bool pv, .slice aa ln ca, .string tx] 38))
  have HB0 : Hid (Below w.heap.size w x0) := zz (by rw [← hx0]; exact bA)
  have HBX : Hid (Bx x0 w.heap.size [.int .i64 1, .int .i64 n, .bool pv, .slice aa ln ca, .string tx]) := zz (by rw [← hx0]; exact Bx.new _ _ _)
  have p_0 := HBX.out.c 0
  have p_1 := HBX.out.c 1
  have p_2 := HBX.out.c 2
  have p_3 := HBX.out.c 3
  have p_4 := HBX.out.c 4
  have p_l := HBX.out.lt
  rw [hx0]
  clear hx0
  have hz0 := HB0.out.size
  have HV := zz (HS.out.below HB0.out)
  have HU : Hid (Upd b o (o + 12) (fun k => k = g ∨ k ∈ bO ah) w x0) := zz (Upd.refl'.below HB0.out HS.out.lt)
  have HAV := zz (HA.out.keep HB0.out)
  have k_f := HV.out.fz
  have k_l := HV.out.lt
  have k_0 := HV.out.c0
  have k_2 := HV.out.c2
  go_upto_region 3 with fail
  refine rB [] [0,1,2,3,4,5,6,7,8] ?_
  repeat (first | refine oW (h := ?_) | refine oL (h := ?_))
  refine oD ?_
  go_upto_if 16 with fail
  go_cut [] (fun wx => sR lo b o (wrapS s) g ah x0 wx)
  case first =>
   by_cases hxw : s.x = s.w
   ·have hxw' : ((s.x : Int) == (s.w : Int)) = true := by simp [hxw]
    have HX : Hid (SA lo b o { s with x := 0 } g cc ah dh (x0.drew.setCell ⟨b, o + 2, none⟩ (.int .i64 0)) ∧ Upd b o (o + 12) (fun k => k = g ∨ k ∈ bO ah) x0 (x0.drew.setCell ⟨b, o + 2, none⟩ (.int .i64 0))) := zz ⟨HV.out.drew.setv2 0 rfl, Upd.set2 (Upd.refl'.drew) _⟩
    have hz : lo ≤ (x0.drew.setCell ⟨b, o + 2, none⟩ (.int .i64 0)).heap.size := by have := HX.out.2.size; omega
    go_wp2_with fail
    refine (Zo4 lo b o { s with x := 0 } g cc ah dh _ HX.out.1 (HOK.out.xy (x := 0) (y := s.y) (Nat.zero_le _) HOK.out.hy) hz).mono ?_
    rintro e x1 ⟨rfl, hr⟩
    have HR := zz hr
    clear hr
    go_wp2_with fail
    go_meet
    rw [show wrapS s = downS { s with x := 0 } from if_pos hxw]
    exact sR.trans HX.out.1 HX.out.2 (.inl rfl) (fun _ h => .inl h) HR.out
   ·have hxw' : ((s.x : Int) == (s.w : Int)) = false := by simp; omega
    go_wp2_with fail
    go_meet
    rw [show wrapS s = s from if_neg hxw]
    exact .mk HV.out.drew Upd.refl'.drew
  case rest =>
   obtain ⟨s1, hs1⟩ := eX (wrapS s)
   obtain ⟨g1, cc1, ah1, dh1, ha, hu, hg, hh⟩ := hcut
   have hok := HOK.out.wrap
   rw [hs1] at ha hok
   have HPR : Hid (Zh5 s n = putS s1 n) := zz (by unfold Zh5; rw [hs1])
   obtain ⟨w9, hw9⟩ : ∃ x, x = wc := ⟨_, rfl⟩
   subst hw9
   have HA9 := zz ha
   have HU9 := zz hu
   have HG9 := zz hg
   have HH9 := zz hh
   have hx1 := hok.2
   have hw2' := hok.1.w2
   have hh2' := hok.1.h2
   have hy' := hok.1.hy
   have hcn := hok.1.cn
   have hlk := hok.1.lk
   have hcur : s1.y * s1.w + s1.x < s1.cells.length := by
    have h1 : (s1.y + 1) * s1.w ≤ s1.h * s1.w := Za2 hy'
    rw [Nat.succ_mul] at h1
    rw [hcn, Nat.mul_comm s1.w s1.h]
    omega
   have hn240 : s1.cells.length ≤ 240 := by rw [hcn]; exact Nat.mul_le_mul hw2' hh2'
   obtain ⟨p, hp⟩ := eX (s1.y * s1.w)
   have hpi : (s1.y : Int) * (s1.w : Int) = (p : Int) := by rw [← hp]; exact (Int.natCast_mul _ _).symm
   rw [hp] at hcur
   obtain ⟨i, hi⟩ := eX (p + s1.x)
   have hii : (p : Int) + (s1.x : Int) = (i : Int) := by omega
   rw [hi] at hcur
   have HI : Hid (s1.y * s1.w + s1.x = i) := zz (by rw [hp, hi])
   obtain ⟨n2, hn2⟩ := eX (s1.cells.length)
   have HCUR := zz hcur
   obtain ⟨e_1, e_2⟩ := ha.cell hcur
   have g_f := ha.gfz
   have g_l := ha.glt.2
   rw [hn2] at hcur hn240
   have hwrp : IntKind.i64.wrap (p : Int) = (p : Int) := iIq _
   have hwri : IntKind.i64.wrap (i : Int) = (i : Int) := iIq _
   have hi0 : (0 : Int) ≤ (i : Int) := by omega
   have hin : (i : Int) < (n2 : Int) := by omega
   have h_0 := ha.c0
   have h_2 := ha.c2
   have h_3 := ha.c3
   have h_4 := ha.c4
   have h_10 := ha.c10
   have h_l := ha.lt
   rw [hn2] at h_10
   have hne : ¬ (w.heap.size = b ∨ (w.heap.size = g ∨ w.heap.size ∈ bO ah)) := by
    rintro (h | h | h)
    ·omega
    ·have := HS.out.glt.2; omega
    ·have := (HS.out.win.blk _ h).2; omega
   have HBX9 := zz (HBX.out.ch hu.ch hne)
   clear p_0 p_1 p_2 p_3 p_4 p_l k_0 k_2 k_f k_l
   have p_1 := HBX9.out.c 1
   have p_l := HBX9.out.lt
   clear hs1 hok ha hu hg hh hp hi hcn hn2 hne
   go_upto_region 6 with fail
   refine rB [26] [0,1,2,3,4,5,6,7,8,9,10,11,12,13,14,15,16,17,18,19,20,21,22,23,24,25,26] ?_
   repeat (first | refine oW (h := ?_) | refine oL (h := ?_))
   refine oO (h := ?_)
   intro K' hK
   go_simp
   refine oN hK (h := ?_)
   clear hK K'
   refine oD ?_
   have HD : Hid (SA lo b o { s1 with cells := s1.cells.set i (n, (s1.look : Int)) } g1 cc1 ah1 dh1 ((w9.setCell ⟨g1, i * 2, none⟩ (.int .i64 n)).setCell ⟨g1, i * 2 + 1, none⟩ (.int .i64 s1.look)).drew ∧ Upd b o (o + 12) (fun k => k = g1 ∨ k ∈ bO ah1) w9 ((w9.setCell ⟨g1, i * 2, none⟩ (.int .i64 n)).setCell ⟨g1, i * 2 + 1, none⟩ (.int .i64 s1.look)).drew) := zz (by
    have h1 := HA9.out.setC HCUR.out (n, (s1.look : Int))
    have hc : Ch (· = g1) w9 ((w9.setCell ⟨g1, i * 2, none⟩ (.int .i64 n)).setCell ⟨g1, i * 2 + 1, none⟩ (.int .i64 s1.look)).drew := ((Ch.set1' _ g1 (i * 2) _).trans (Ch.set1' _ g1 (i * 2 + 1) _) (fun _ h => .inl h)).drew
    exact ⟨h1.drew, Upd.ofCh hc HA9.out.lt (fun e => HA9.out.gb e.symm) (fun _ hi => .inl (.inl hi))⟩)
   obtain ⟨w10, hw10⟩ : ∃ x, ((w9.setCell ⟨g1, i * 2, none⟩ (.int .i64 n)).setCell ⟨g1, i * 2 + 1, none⟩ (.int .i64 s1.look)).drew = x := ⟨_, rfl⟩
   rw [hw10] at HD ⊢
   clear hw10 e_1 e_2 g_f g_l h_0 h_2 h_3 h_4 h_10 h_l
   have z_2 := HD.out.1.c2
   have z_f := HD.out.1.fz
   have z_l := HD.out.1.lt
   go_wp2_with fail
   first | refine bodyPost_end (v := .tuple #[]) (by simp [results, Tryz.results37]) rfl ?_ | refine bodyPost_ret (v := .tuple #[]) (by simp [results, Tryz.results37]) rfl ?_
   refine ⟨rfl, ?_⟩
   unfold actI
   rw [if_neg (fun e => absurd e.1 (by show ¬ (1 : Int) = 4; decide))]
   unfold actS
   rw [if_pos rfl]
   rw [HPR.out]
   rw [show putS s1 n = { s1 with cells := s1.cells.set i (n, (s1.look : Int)), x := s1.x + 1 } by unfold putS; rw [HI.out]]
   have h2 : sR lo b o { s1 with cells := s1.cells.set i (n, (s1.look : Int)), x := s1.x + 1 } g1 ah1 w9 (w10.setCell ⟨b, o + 2, none⟩ (.int .i64 ((s1.x : Int) + 1))) := .mk (HD.out.1.setv2 (s1.x + 1) (by omega)) (HD.out.2.set2 _)
   exact sR.trans HV.out HU.out (.inl rfl) (fun _ h => .inl h) (sR.trans HA9.out HU9.out HG9.out HH9.out h2)
 by_cases h2 : kd = 2
 ·subst h2
  go_enter Tryz.func37, Tryz.ntmps37
  go_upto_region 1 with fail
  obtain ⟨x0, hx0⟩ := eX (w.alloc (.cells #[.int .i64 2, .int .i64 n, .bool pv, .slice aa ln ca, .string tx] 38))
  have HB0 : Hid (Below w.heap.size w x0) := zz (by rw [← hx0]; exact bA)
  have HBX : Hid (Bx x0 w.heap.size [.int .i64 2, .int .i64 n, .bool pv, .slice aa ln ca, .string tx]) := zz (by rw [← hx0]; exact Bx.new _ _ _)
  have p_0 := HBX.out.c 0
  have p_1 := HBX.out.c 1
  have p_2 := HBX.out.c 2
  have p_3 := HBX.out.c 3
  have p_4 := HBX.out.c 4
  have p_l := HBX.out.lt
  rw [hx0]
  clear hx0
  have hz0 := HB0.out.size
  have HV := zz (HS.out.below HB0.out)
  have HU : Hid (Upd b o (o + 12) (fun k => k = g ∨ k ∈ bO ah) w x0) := zz (Upd.refl'.below HB0.out HS.out.lt)
  have HAV := zz (HA.out.keep HB0.out)
  have k_f := HV.out.fz
  have k_l := HV.out.lt
  go_wp2_with fail
  refine (Yb1 lo b o s g cc ah dh _ n HV.out HOK.out (by omega)).mono ?_
  rintro e x1 ⟨rfl, hr⟩
  have HR := zz hr
  clear hr
  go_wp2_with fail
  first | refine bodyPost_end (v := .tuple #[]) (by simp [results, Tryz.results37]) rfl ?_ | refine bodyPost_ret (v := .tuple #[]) (by simp [results, Tryz.results37]) rfl ?_
  refine ⟨rfl, ?_⟩
  unfold actI
  rw [if_neg (fun e => absurd e.1 (by show ¬ (2 : Int) = 4; decide))]
  unfold actS
  rw [if_neg (by show ¬ (2 : Int) = 1; decide), if_pos rfl]
  exact sR.trans HV.out HU.out (.inl rfl) (fun _ h => .inl h) HR.out
 by_cases h3 : kd = 3
 ·subst h3
  go_enter Tryz.func37, Tryz.ntmps37
  go_upto_region 1 with fail
  obtain ⟨x0, hx0⟩ := eX (w.alloc (.cells #[.int .i64 3, .int .i64 n, .bool pv, .slice aa ln ca, .string tx] 38))
  have HB0 : Hid (Below w.heap.size w x0) := zz (by rw [← hx0]; exact bA)
  have HBX : Hid (Bx x0 w.heap.size [.int .i64 3, .int .i64 n, .bool pv, .slice aa ln ca, .string tx]) := zz (by rw [← hx0]; exact Bx.new _ _ _)
  have p_0 := HBX.out.c 0
  have p_1 := HBX.out.c 1
  have p_2 := HBX.out.c 2
  have p_3 := HBX.out.c 3
  have p_4 := HBX.out.c 4
  have p_l := HBX.out.lt
  rw [hx0]
  clear hx0
  have hz0 := HB0.out.size
  have HV := zz (HS.out.below HB0.out)
  have HU : Hid (Upd b o (o + 12) (fun k => k = g ∨ k ∈ bO ah) w x0) := zz (Upd.refl'.below HB0.out HS.out.lt)
  have HAV := zz (HA.out.keep HB0.out)
  have k_f := HV.out.fz
  have k_l := HV.out.lt
  go_wp2_with fail
  refine (Yd1 lo b o s g cc ah dh _ n HV.out HOK.out (by omega)).mono ?_
  rintro e x1 ⟨rfl, hr⟩
  have HR := zz hr
  clear hr
  go_wp2_with fail
  first | refine bodyPost_end (v := .tuple #[]) (by simp [results, Tryz.results37]) rfl ?_ | refine bodyPost_ret (v := .tuple #[]) (by simp [results, Tryz.results37]) rfl ?_
  refine ⟨rfl, ?_⟩
  unfold actI
  rw [if_neg (fun e => absurd e.1 (by show ¬ (3 : Int) = 4; decide))]
  unfold actS
  rw [if_neg (by show ¬ (3 : Int) = 1; decide), if_neg (by show ¬ (3 : Int) = 2; decide), if_pos rfl]
  exact sR.trans HV.out HU.out (.inl rfl) (fun _ h => .inl h) HR.out
 by_cases h5 : kd = 5
 ·subst h5
  go_enter Tryz.func37, Tryz.ntmps37
  go_upto_region 1 with fail
  obtain ⟨x0, hx0⟩ := eX (w.alloc (.cells #[.int .i64 5, .int .i64 n, .bool pv, .slice aa ln ca, .string tx] 38))
  have HB0 : Hid (Below w.heap.size w x0) := zz (by rw [← hx0]; exact bA)
  have HBX : Hid (Bx x0 w.heap.size [.int .i64 5, .int .i64 n, .bool pv, .slice aa ln ca, .string tx]) := zz (by rw [← hx0]; exact Bx.new _ _ _)
  have p_0 := HBX.out.c 0
  have p_1 := HBX.out.c 1
  have p_2 := HBX.out.c 2
  have p_3 := HBX.out.c 3
  have p_4 := HBX.out.c 4
  have p_l := HBX.out.lt
  rw [hx0]
  clear hx0
  have hz0 := HB0.out.size
  have HV := zz (HS.out.below HB0.out)
  have HU : Hid (Upd b o (o + 12) (fun k => k = g ∨ k ∈ bO ah) w x0) := zz (Upd.refl'.below HB0.out HS.out.lt)
  have HAV := zz (HA.out.keep HB0.out)
  have k_f := HV.out.fz
  have k_l := HV.out.lt
  have k_9 := HV.out.c9
  go_wp2_with fail
  first | refine bodyPost_end (v := .tuple #[]) (by simp [results, Tryz.results37]) rfl ?_ | refine bodyPost_ret (v := .tuple #[]) (by simp [results, Tryz.results37]) rfl ?_
  refine ⟨rfl, ?_⟩
  unfold actI
  rw [if_neg (fun e => absurd e.1 (by show ¬ (5 : Int) = 4; decide))]
  unfold actS
  rw [if_neg (by show ¬ (5 : Int) = 1; decide), if_neg (by show ¬ (5 : Int) = 2; decide), if_neg (by show ¬ (5 : Int) = 3; decide), if_neg (by show ¬ (5 : Int) = 4; decide), if_pos rfl]
  exact .mk (HV.out.set9 tx) (HU.out.set9 _)
 by_cases h4 : kd = 4
 ·subst h4
  cases pv
  ·have HCS : Hid (∀ W, SA lo b o s g cc ah dh W → lo ≤ W.heap.size → Sl iE 1 W aa xs → Calls Tryz.prog 76 #[.pointer (some ⟨b, o, none⟩), .agg #[.int .i64 4, .int .i64 n, .bool false, .slice aa ln ca, .string tx]] W fun e w' => e = .returned (.tuple #[]) ∧ sR lo b o (csiI s n xs) g ah W w') := zz (fun W h1 h2 h3 => by
    rw [← HLN.out]
    exact icsi_c lo b o s g cc ah dh W 4 xs aa ca tx n h1 HOK.out h2 h3 HNA.out (AcOK.xs4 HAC.out).1 (AcOK.xs4 HAC.out).2)
   go_enter Tryz.func37, Tryz.ntmps37
   go_upto_region 1 with fail
   obtain ⟨x0, hx0⟩ := eX (w.alloc (.cells #[.int .i64 4, .int .i64 n, .bool false, .slice aa ln ca, .string tx] 38))
   have HB0 : Hid (Below w.heap.size w x0) := zz (by rw [← hx0]; exact bA)
   have HBX : Hid (Bx x0 w.heap.size [.int .i64 4, .int .i64 n, .bool false, .slice aa ln ca, .string tx]) := zz (by rw [← hx0]; exact Bx.new _ _ _)
   have p_0 := HBX.out.c 0
   have p_1 := HBX.out.c 1
   have p_2 := HBX.out.c 2
   have p_3 := HBX.out.c 3
   have p_4 := HBX.out.c 4
   have p_l := HBX.out.lt
   rw [hx0]
   clear hx0
   have hz0 := HB0.out.size
   have HV := zz (HS.out.below HB0.out)
   have HU : Hid (Upd b o (o + 12) (fun k => k = g ∨ k ∈ bO ah) w x0) := zz (Upd.refl'.below HB0.out HS.out.lt)
   have HAV := zz (HA.out.keep HB0.out)
   have k_f := HV.out.fz
   have k_l := HV.out.lt
   go_wp2_with fail
   refine (HCS.out _ HV.out (by omega) HAV.out).mono ?_
   rintro e x1 ⟨rfl, hr⟩
   have HR := zz hr
   clear hr
   go_wp2_with fail
   first | refine bodyPost_end (v := .tuple #[]) (by simp [results, Tryz.results37]) rfl ?_ | refine bodyPost_ret (v := .tuple #[]) (by simp [results, Tryz.results37]) rfl ?_
   refine ⟨rfl, ?_⟩
   unfold actI
   rw [if_pos ⟨rfl, rfl⟩]
   exact sR.trans HV.out HU.out (.inl rfl) (fun _ h => .inl h) HR.out
  ·go_enter Tryz.func37, Tryz.ntmps37
   go_upto_region 1 with fail
   obtain ⟨x0, hx0⟩ := eX (w.alloc (.cells #[.int .i64 4, .int .i64 n, .bool true, .slice aa ln ca, .string tx] 38))
   have HB0 : Hid (Below w.heap.size w x0) := zz (by rw [← hx0]; exact bA)
   have HBX : Hid (Bx x0 w.heap.size [.int .i64 4, .int .i64 n, .bool true, .slice aa ln ca, .string tx]) := zz (by rw [← hx0]; exact Bx.new _ _ _)
   have p_0 := HBX.out.c 0
   have p_1 := HBX.out.c 1
   have p_2 := HBX.out.c 2
   have p_3 := HBX.out.c 3
   have p_4 := HBX.out.c 4
   have p_l := HBX.out.lt
   rw [hx0]
   clear hx0
   have hz0 := HB0.out.size
   have HV := zz (HS.out.below HB0.out)
   have HU : Hid (Upd b o (o + 12) (fun k => k = g ∨ k ∈ bO ah) w x0) := zz (Upd.refl'.below HB0.out HS.out.lt)
   have HAV := zz (HA.out.keep HB0.out)
   have k_f := HV.out.fz
   have k_l := HV.out.lt
   go_wp2_with fail
   first | refine bodyPost_end (v := .tuple #[]) (by simp [results, Tryz.results37]) rfl ?_ | refine bodyPost_ret (v := .tuple #[]) (by simp [results, Tryz.results37]) rfl ?_
   refine ⟨rfl, ?_⟩
   unfold actI
   rw [if_neg (fun e => absurd e.2 (by show ¬ true = false; decide))]
   unfold actS
   rw [if_neg (by show ¬ (4 : Int) = 1; decide), if_neg (by show ¬ (4 : Int) = 2; decide), if_neg (by show ¬ (4 : Int) = 3; decide), if_pos rfl, if_pos rfl]
   exact .mk HV.out HU.out
 rcases HAC.out with ⟨hk, _⟩ | ⟨_, _, ⟨hk, _⟩ | ⟨_, ⟨hk, _⟩ | ⟨hk, _⟩ | ⟨hk, _⟩⟩⟩
 ·exact absurd hk h4
 ·exact absurd hk h5
 ·exact absurd hk h1
 ·exact absurd hk h2
 ·exact absurd hk h3
end
section
theorem Fr.zero {α : Type} {enc : α → List Value} {e : TypeId} {sz lo hi n : Nat} {a : Option Addr} {c : Nat} {xs : List α} {w : World} (h : Fr enc e sz lo hi (.slice a n c) xs w) : Fr enc e sz lo hi (.slice a 0 c) [] w := by
 obtain ⟨⟨a', cap', hv, h1, h2, h3⟩, h4⟩ := h
 injection hv with e1 e2 e3
 subst e1 e3
 refine ⟨⟨_, _, rfl, Nat.zero_le _, by simp, ?_⟩, fun k hk => h4 k (by cases a <;> exact hk)⟩
 rcases h3 with ⟨hv, hn⟩ | ⟨g, cap, cur, hv, hbg, hg, hnc, hcm, hcs, htake⟩
 ·injection hv with e1 e2 e3
  subst e1 e3
  exact .inl ⟨rfl, rfl⟩
 ·injection hv with e1 e2 e3
  subst e1 e3
  exact .inr ⟨g, _, cur, rfl, hbg, hg, Nat.zero_le _, hcm, hcs, by simp⟩
theorem PS.zero {B lo : Nat} {p : PV} {ap : Option Addr} {cp : Nat} {L : List aA} {al : Option Addr} {cl : Nat} {w : World} (h : PS B lo p ap cp L al cl w) : PS B lo p ap cp [] al cl w := by
 have hm : ∀ k, k ∈ acB al [] → k ∈ acB al L := fun k hk => by
  simp only [acB, roB, List.flatMap_nil, List.append_nil] at hk
  simp only [acB, roB, List.mem_append]
  exact .inl hk
 refine ⟨h.c0, h.c1, h.c2, h.c3, h.c4, h.fz, h.lt, h.args, ⟨Fr.zero h.ro.row, by simp, by simpa [roB] using Zd3 _⟩, fun hk => h.nB ?_, fun k hk hk2 => h.nd k hk (hm k hk2)⟩
 rcases List.mem_append.1 hk with hk | hk
 ·exact List.mem_append.2 (.inl hk)
 ·exact List.mem_append.2 (.inr (hm _ hk))
def actsI (s : Scr) (l : List AV) : Scr := l.foldl actI s
theorem sK.actsI {s : Scr} (h : sK s) : ∀ {l : List AV}, (∀ a ∈ l, AcOK a) → sK (actsI s l) := by
 intro l
 induction l generalizing s with
 | nil => intro _; exact h
 | cons a l ih => intro hl; exact ih (h.actI (hl a (by simp))) (fun b hb => hl b (by simp [hb]))
structure SP (ls bs o bp lp : Nat) (s : Scr) (g cc : Nat) (ah : Option Addr) (dh : Nat) (p : PV) (ap : Option Addr) (cp : Nat) (L : List aA) (al : Option Addr) (cl : Nat) (w : World) : Prop where
 sc : SA ls bs o s g cc ah dh w
 ps : PS bp lp p ap cp L al cl w
 d1 : bp ≠ bs ∧ bp ≠ g ∧ bp ∉ bO ah
 d2 : ∀ k ∈ bO ap ++ acB al L, k ≠ bs ∧ k ≠ g ∧ k ∉ bO ah
def CHS (bs bp g : Nat) (ah ap : Option Addr) (k : Nat) : Prop := k = bs ∨ k = g ∨ k ∈ bO ah ∨ k = bp ∨ k ∈ bO ap
section
variable {ls bs o bp lp : Nat} {s s2 : Scr} {g cc : Nat} {ah : Option Addr} {dh : Nat} {p : PV} {ap : Option Addr} {cp : Nat} {L : List aA} {al : Option Addr} {cl : Nat} {w w' : World} {R : PV × List AV} {e : Ending}
theorem SP.below (h : SP ls bs o bp lp s g cc ah dh p ap cp L al cl w) (hb : Below w.heap.size w w') : SP ls bs o bp lp s g cc ah dh p ap cp L al cl w' :=
 ⟨h.sc.below hb, h.ps.keep hb, h.d1, h.d2⟩
theorem SP.lts (h : SP ls bs o bp lp s g cc ah dh p ap cp L al cl w) : bs < w.heap.size ∧ (ls ≤ g ∧ g < w.heap.size) ∧ (∀ k ∈ bO ah, ls ≤ k ∧ k < w.heap.size) ∧ bp < w.heap.size ∧ (∀ k ∈ bO ap ++ acB al L, lp ≤ k ∧ k < w.heap.size) :=
 ⟨h.sc.lt, h.sc.glt, fun k hk => h.sc.win.blk k hk, h.ps.lt, fun k hk => by
   rcases List.mem_append.1 hk with hk | hk
   ·exact Fr.blks h.ps.args k hk
   ·exact h.ps.ro.bd actL k hk⟩
theorem SP.zero (h : SP ls bs o bp lp s g cc ah dh p ap cp L al cl w) : SP ls bs o bp lp s g cc ah dh p ap cp [] al cl w :=
 ⟨h.sc, h.ps.zero, h.d1, fun k hk => h.d2 k (by
   rcases List.mem_append.1 hk with hk | hk
   ·exact List.mem_append.2 (.inl hk)
   ·simp only [acB, roB, List.flatMap_nil, List.append_nil] at hk
    exact List.mem_append.2 (.inr (List.mem_append.2 (.inl hk))))⟩
theorem SP.parse (h : SP ls bs o bp lp s g cc ah dh p ap cp [] al cl w) (hr : PR bp lp R ap [] al w e w') :
 ∃ ap' cp' L' al' cl', e = .returned (.slice al' L'.length cl') ∧ L'.map (·.A) = R.2 ∧ SP ls bs o bp lp s g cc ah dh R.1 ap' cp' L' al' cl' w' ∧ Ch (fun k => k = bp ∨ k ∈ bO ap ∨ k ∈ bO al) w w' ∧ (∀ k ∈ bO ap' ++ acB al' L', k ∈ bO ap ++ bO al ∨ w.heap.size ≤ k) := by
 obtain ⟨ap', cp', L', al', cl', rfl, hps, hL, hc, hk⟩ := hr
 have hl := h.lts
 have hk' : ∀ k ∈ bO ap' ++ acB al' L', k ∈ bO ap ++ bO al ∨ w.heap.size ≤ k := fun k hk1 => by
  have := hk k hk1
  simpa only [acB, roB, List.flatMap_nil, List.append_nil] using this
 have hd2 : ∀ k, k ∈ bO ap ++ bO al → k ≠ bs ∧ k ≠ g ∧ k ∉ bO ah := fun k hk1 => h.d2 k (by simpa only [acB, roB, List.flatMap_nil, List.append_nil] using hk1)
 have hM : ∀ k, (k = bp ∨ k ∈ bO ap ∨ k ∈ bO al) → k ≠ bs ∧ k ≠ g ∧ k ∉ bO ah := fun k hk1 => by
  rcases hk1 with rfl | hk1 | hk1
  ·exact h.d1
  ·exact hd2 k (List.mem_append.2 (.inl hk1))
  ·exact hd2 k (List.mem_append.2 (.inr hk1))
 refine ⟨ap', cp', L', al', cl', rfl, by simpa using hL, ⟨h.sc.ch hc (fun e => (hM _ e).1 rfl) (fun e => (hM _ e).2.1 rfl) (fun k hk1 e => (hM _ e).2.2 hk1), hps, h.d1, fun k hk1 => ?_⟩, hc, hk'⟩
 rcases hk' k hk1 with h1 | h1
 ·exact hd2 k h1
 ·refine ⟨?_, ?_, fun h2 => ?_⟩
  ·have := hl.1; omega
  ·have := hl.2.1.2; omega
  ·have := (hl.2.2.1 k h2).2; omega
theorem SP.apply (h : SP ls bs o bp lp s g cc ah dh p ap cp L al cl w) (hr : sR ls bs o s2 g ah w w') :
 ∃ g' cc' ah' dh', SP ls bs o bp lp s2 g' cc' ah' dh' p ap cp L al cl w' ∧ Ch (fun k => k = bs ∨ k = g ∨ k ∈ bO ah) w w' ∧ (g' = g ∨ w.heap.size ≤ g') ∧ ∀ k ∈ bO ah', k ∈ bO ah ∨ w.heap.size ≤ k := by
 obtain ⟨g', cc', ah', dh', hs, u, hg, ha⟩ := hr
 have hl := h.lts
 have hn : ∀ k, k < w.heap.size → (k ≠ bs ∧ k ≠ g ∧ k ∉ bO ah) → k ≠ bs ∧ k ≠ g' ∧ k ∉ bO ah' := fun k hk hd => by
  refine ⟨hd.1, fun e => ?_, fun e => ?_⟩
  ·rcases hg with h1 | h1
   ·exact hd.2.1 (e.trans h1)
   ·omega
  ·rcases ha k e with h1 | h1
   ·exact hd.2.2 h1
   ·omega
 have hM : ∀ k, (k ≠ bs ∧ k ≠ g ∧ k ∉ bO ah) → ¬ (k = bs ∨ (k = g ∨ k ∈ bO ah)) := fun k hd e => by
  rcases e with e | e | e
  ·exact hd.1 e
  ·exact hd.2.1 e
  ·exact hd.2.2 e
 exact ⟨g', cc', ah', dh', ⟨hs, h.ps.ch u.ch (hM _ h.d1) (fun k hk => hM _ (h.d2 k hk)), hn _ hl.2.2.2.1 h.d1, fun k hk => hn k (hl.2.2.2.2 k hk).2 (h.d2 k hk)⟩, u.ch, hg, ha⟩
end
def FSt (ls bs o bp lp g : Nat) (ah ap : Option Addr) (w : World) (s : Scr) (p : PV) (L : List aA) (al : Option Addr) (cl : Nat) (wr : World) : Prop :=
 ∃ g1 c1 a1 d1 ap1 cp1, SP ls bs o bp lp s g1 c1 a1 d1 p ap1 cp1 L al cl wr ∧ Ch (CHS bs bp g ah ap) w wr ∧ (g1 = g ∨ w.heap.size ≤ g1) ∧ (∀ k ∈ bO a1, k ∈ bO ah ∨ w.heap.size ≤ k) ∧ (∀ k ∈ bO ap1 ++ acB al L, k ∈ bO ap ∨ w.heap.size ≤ k) ∧ UT wr
def TabA (ls bs bp lp : Nat) : Prop := ∀ G, G = 0 ∨ G = 1 → G < ls ∧ G < lp ∧ G ≠ bs ∧ G ≠ bp
section
variable {ls bs o bp lp g : Nat} {ah ap : Option Addr} {w : World} {s : Scr} {p : PV} {L : List aA} {al : Option Addr} {cl : Nat} {wr w' : World}
theorem FSt.below (h : FSt ls bs o bp lp g ah ap w s p L al cl wr) (hb : Below wr.heap.size wr w') : FSt ls bs o bp lp g ah ap w s p L al cl w' := by
 obtain ⟨g1, c1, a1, d1, ap1, cp1, h1, h2, h3, h4, h5, h6⟩ := h
 exact ⟨g1, c1, a1, d1, ap1, cp1, h1.below hb, h2.below1 hb, h3, h4, h5, h6.keep hb⟩
theorem FSt.size (h : FSt ls bs o bp lp g ah ap w s p L al cl wr) : w.heap.size ≤ wr.heap.size := by
 obtain ⟨g1, c1, a1, d1, ap1, cp1, h1, h2, h3, h4, h5, h6⟩ := h
 exact h2.size
theorem FSt.zero (h : FSt ls bs o bp lp g ah ap w s p L al cl wr) : FSt ls bs o bp lp g ah ap w s p [] al cl wr := by
 obtain ⟨g1, c1, a1, d1, ap1, cp1, h1, h2, h3, h4, h5, h6⟩ := h
 refine ⟨g1, c1, a1, d1, ap1, cp1, h1.zero, h2, h3, h4, fun k hk => h5 k ?_, h6⟩
 rcases List.mem_append.1 hk with hk | hk
 ·exact List.mem_append.2 (.inl hk)
 ·simp only [acB, roB, List.flatMap_nil, List.append_nil] at hk
  exact List.mem_append.2 (.inr (List.mem_append.2 (.inl hk)))
theorem FSt.nil (h : FSt ls bs o bp lp g ah ap w s p L none cl wr) : cl = 0 := by
 obtain ⟨g1, c1, a1, d1, ap1, cp1, h1, _⟩ := h
 obtain ⟨⟨a', cap', hv, h2, h3, h4⟩, _⟩ := h1.ps.ro.row
 injection hv with e1 e2 e3
 rcases h4 with ⟨hv, hn⟩ | ⟨g, cap, cur, hv, _⟩
 ·injection hv with f1 f2 f3
  omega
 ·injection hv with f1 f2 f3
  rw [← e1] at f1
  cases f1
theorem FSt.nil2 (h : FSt ls bs o bp lp g ah ap w s p L none cl wr) : L.length = 0 := by
 obtain ⟨g1, c1, a1, d1, ap1, cp1, h1, _⟩ := h
 rcases Nat.eq_zero_or_pos L.length with h0 | h0
 ·exact h0
 ·obtain ⟨g2, h2, _⟩ := h1.ps.ro.row.block h0
  cases h2
theorem FSt.prs (h : FSt ls bs o bp lp g ah ap w s p L al cl wr) (hw : w.heap.size ≤ wr.heap.size) (hlp : lp ≤ w.heap.size) (ok : PvOK p) (hT : TabA ls bs bp lp) (x : UInt8) :
 Calls Tryz.prog 48 #[.pointer (some ⟨bp, 0, none⟩), .slice al 0 cl, .int .u8 x.toNat] wr fun e w' => ∃ L' al' cl', e = .returned (.slice al' L'.length cl') ∧ L'.map (·.A) = (pstep p x).2 ∧ FSt ls bs o bp lp g ah ap w s (pstep p x).1 L' al' cl' w' := by
 obtain ⟨g1, c1, a1, d1, ap1, cp1, h1, h2, h3, h4, h5, h6⟩ := h
 have hz := h1.zero
 have hl := h1.lts
 have t1 := hT _ (.inl rfl)
 have t2 := hT _ (.inr rfl)
 refine (Calls.mono (Yi1 bp lp p ap1 al cp1 cl [] x wr hz.ps (by simp) (Nat.le_trans hlp hw) ok h6 (fun e => t1.2.2.2 e.symm) (fun e => t2.2.2.2 e.symm)) ?_)
 intro e w' hr
 obtain ⟨ap', cp', L', al', cl', rfl, hL, hsp, hc, hk⟩ := hz.parse hr
 have h5' : ∀ k, k ∈ bO ap1 ++ bO al → k ∈ bO ap ∨ w.heap.size ≤ k := fun k hk => h5 k (by
  rcases List.mem_append.1 hk with hk | hk
  ·exact List.mem_append.2 (.inl hk)
  ·exact List.mem_append.2 (.inr (List.mem_append.2 (.inl hk))))
 refine ⟨L', al', cl', rfl, hL, g1, c1, a1, d1, ap', cp', hsp, h2.trans hc (fun k hk => ?_), h3, h4, fun k hk1 => ?_, h6.ch hc (fun e => ?_) (fun e => ?_)⟩
 ·rcases hk with rfl | hk | hk
  ·exact .inl (.inr (.inr (.inr (.inl rfl))))
  ·rcases h5' k (List.mem_append.2 (.inl hk)) with h7 | h7
   ·exact .inl (.inr (.inr (.inr (.inr h7))))
   ·exact .inr h7
  ·rcases h5' k (List.mem_append.2 (.inr hk)) with h7 | h7
   ·exact .inl (.inr (.inr (.inr (.inr h7))))
   ·exact .inr h7
 ·rcases hk k hk1 with h7 | h7
  ·exact h5' k h7
  ·exact .inr (by omega)
 all_goals
  have hb : ∀ k, k ∈ bO ap1 ∨ k ∈ bO al → lp ≤ k := fun k hk => (hl.2.2.2.2 k (by
   rcases hk with hk | hk
   ·exact List.mem_append.2 (.inl hk)
   ·exact List.mem_append.2 (.inr (List.mem_append.2 (.inl hk))))).1
  rcases e with e | e
  ·first | exact t1.2.2.2 e | exact t2.2.2.2 e
  ·have := hb _ e
   omega
theorem FSt.cells (h : FSt ls bs o bp lp g ah ap w s p L al cl wr) {j : Nat} (hj : j < L.length) : ∃ b q, al = some ⟨b, q, none⟩ ∧ b < wr.heap.size ∧ ∀ i v, (actE L[j])[i]? = some v → wr.cell? ⟨b, q + j * 5 + i, none⟩ = some v := by
 obtain ⟨g1, c1, a1, d1, ap1, cp1, h1, _⟩ := h
 obtain ⟨b, q, hb, hl, hc⟩ := (Fr.sl (enc := actE) (fun _ => rfl) h1.ps.ro.row).at hj
 refine ⟨b, q, hb, hl, fun i v hv => ?_⟩
 have hi : i < 5 := by
  rcases Nat.lt_or_ge i 5 with h | h
  ·exact h
  ·rw [List.getElem?_eq_none (by simpa [actE] using h)] at hv; cases hv
 exact (hc j hj i hi).trans hv
theorem FSt.app (h : FSt ls bs o bp lp g ah ap w s p L al cl wr) (hw : w.heap.size ≤ wr.heap.size) (hls : ls ≤ w.heap.size) (ok : sK s) (hT : TabA ls bs bp lp) {j : Nat} (hj : j < L.length) (hac : AcOK L[j].A) :
 Calls Tryz.prog 37 #[.pointer (some ⟨bs, o, none⟩), .agg (actE L[j]).toArray] wr fun e w' => e = .returned (.tuple #[]) ∧ FSt ls bs o bp lp g ah ap w (actI s L[j].A) p L al cl w' := by
 obtain ⟨g1, c1, a1, d1, ap1, cp1, h1, h2, h3, h4, h5, h6⟩ := h
 have hl := h1.lts
 have t1 := hT _ (.inl rfl)
 have t2 := hT _ (.inr rfl)
 have how := h1.ps.ro.ow L[j] (List.getElem_mem _)
 refine (Calls.mono (Zz8 ls bs o s g1 c1 a1 d1 wr L[j].A L[j].aa L[j].ca h1.sc ok (Nat.le_trans hls hw) hac (Fr.sl (enc := iE) (fun _ => rfl) how) (fun k hk => h1.d2 k ?_)) ?_)
 ·exact List.mem_append.2 (.inr (List.mem_append.2 (.inr (List.mem_flatMap.2 ⟨L[j], List.getElem_mem _, hk⟩))))
 rintro e w' ⟨rfl, hr⟩
 obtain ⟨g', c', a', d', hsp, hc, hg, ha⟩ := h1.apply hr
 refine ⟨rfl, g', c', a', d', ap1, cp1, hsp, h2.trans hc (fun k hk => ?_), ?_, fun k hk => ?_, h5, h6.ch hc (fun e => ?_) (fun e => ?_)⟩
 ·rcases hk with rfl | rfl | hk
  ·exact .inl (.inl rfl)
  ·rcases h3 with h7 | h7
   ·exact .inl (.inr (.inl h7))
   ·exact .inr h7
  ·rcases h4 k hk with h7 | h7
   ·exact .inl (.inr (.inr (.inl h7)))
   ·exact .inr h7
 ·rcases hg with h7 | h7
  ·rw [h7]; exact h3
  ·exact .inr (by omega)
 ·rcases ha k hk with h7 | h7
  ·exact h4 k h7
  ·exact .inr (by omega)
 all_goals
  rcases e with e | e | e
  ·first | exact t1.2.2.1 e | exact t2.2.2.1 e
  ·have := hl.2.1.1
   omega
  ·have := (hl.2.2.1 _ e).1
   omega
end
theorem Zm8 (s : Scr) (l : List AV) {j : Nat} (hj : j < l.length) : actsI s (l.take (j + 1)) = actI (actsI s (l.take j)) l[j] := by
 show List.foldl actI s _ = actI (List.foldl actI s _) _
 rw [List.take_succ_eq_append_getElem hj, List.foldl_append]
 rfl
theorem iFeed_c (ls bs o bp lp : Nat) (s : Scr) (g cc : Nat) (ah : Option Addr) (dh : Nat) (p : PV) (ap : Option Addr) (cp : Nat) (t : ByteArray) (w : World) (h : SP ls bs o bp lp s g cc ah dh p ap cp [] none 0 w) (ok : sK s) (okp : PvOK p) (hls : ls ≤ w.heap.size) (hlp : lp ≤ w.heap.size) (ht : t.size ≤ 131072) (hUT : UT w) (hG : TabA ls bs bp lp) :
 Calls Tryz.prog 46 #[.pointer (some ⟨bs, o, none⟩), .pointer (some ⟨bp, 0, none⟩), .string t] w fun e w' => e = .returned (.tuple #[]) ∧ ∃ L al cl, FSt ls bs o bp lp g ah ap w (actsI s (prun p t.data.toList).2) (prun p t.data.toList).1 L al cl w' := by
 have HOK := zz ok
 have HPK := zz okp
 have HG := zz hG
 have HF : Hid (FSt ls bs o bp lp g ah ap w s p [] none 0 w) := zz ⟨g, cc, ah, dh, ap, cp, h, Ch.refl, .inl rfl, fun _ h => .inl h, fun k hk => .inl (by simpa [acB, roB, bO] using hk), hUT⟩
 obtain ⟨B, hB⟩ := eX (t.data.toList)
 have hBl : B.length = t.size := by rw [← hB]; exact Array.length_toList
 obtain ⟨n, hn⟩ := eX (t.size)
 have HBB := zz hB
 have HBL : Hid (B.length = n) := zz (by rw [hBl, hn])
 rw [hn] at ht
 have HN := zz hn
 rw [hB]
 have HLS := zz hls
 have HLP := zz hlp
 clear h ok okp hUT hG hBl hB hls hlp
 have hsz : (t.size : Int) = (n : Int) := by rw [hn]
 go_enter Tryz.func46, Tryz.ntmps46
 go_wp2_with fail
 clear hsz hn
 go_loopw [6, 12] (fun lv iv wr => ∃ (i : Nat) (al0 : Option Addr) (m0 cl0 : Nat), i ≤ n ∧ iv = .int .i64 i ∧ lv = .slice al0 m0 cl0 ∧ Hid (∃ L, L.length = m0 ∧ w.heap.size ≤ wr.heap.size ∧ FSt ls bs o bp lp g ah ap w (actsI s (prun p (B.take i)).2) (prun p (B.take i)).1 L al0 cl0 wr)) (fun _ iv _ => n - (intOf iv).toNat)
 case atStart => exact ⟨0, none, 0, 0, Nat.zero_le _, rfl, rfl, zz ⟨[], rfl, Nat.le_refl _, HF.out⟩⟩
 case round =>
  obtain ⟨i, al0, m0, cl0, hin, rfl, rfl, HR⟩ := hrel
  by_cases hlt : i < n
  ·have hlt' : (i : Int) < (n : Int) := by omega
   obtain ⟨L, hLm, hwz, hf⟩ := HR.out
   obtain ⟨s1, hs1⟩ := eX (actsI s (prun p (B.take i)).2)
   obtain ⟨p1, hpp1⟩ : ∃ z, (prun p (B.take i)).1 = z := ⟨_, rfl⟩
   have hib : i < B.length := by rw [HBL.out]; exact hlt
   obtain ⟨x, hx⟩ := eX (B[i])
   have hsn : prun p (B.take (i + 1)) = ((pstep p1 x).1, (prun p (B.take i)).2 ++ (pstep p1 x).2) := by
    rw [List.take_succ_eq_append_getElem hib, Zl7, hx, hpp1]
   have HNX : Hid ((prun p (B.take (i + 1))).1 = (pstep p1 x).1 ∧ actsI s (prun p (B.take (i + 1))).2 = actsI s1 (pstep p1 x).2) := zz (by
    rw [hsn]
    refine ⟨rfl, ?_⟩
    show List.foldl actI s _ = _
    rw [List.foldl_append]
    have : List.foldl actI s (prun p (B.take i)).2 = s1 := hs1
    rw [this]
    rfl)
   have HOK1 : Hid (sK s1) := zz (by rw [← hs1]; exact HOK.out.actsI (fun a ha => Zd4 _ HPK.out a ha))
   have hpk1 : PvOK p1 := by rw [← hpp1]; exact Ze9 _ HPK.out
   have HXC : Hid (∀ a ∈ (pstep p1 x).2, AcOK a) := zz (fun a ha => Zd4 [x] hpk1 a (by rw [Zy6]; exact ha))
   have HL2 : Hid ((pstep p1 x).2.length ≤ 2) := zz (Zp1 p1 x)
   rw [hs1, hpp1] at hf
   have HWZ := zz hwz
   have HPA : Hid (∀ W, Below wr.heap.size wr W → Calls Tryz.prog 48 #[.pointer (some ⟨bp, 0, none⟩), .slice al0 0 cl0, .int .u8 x.toNat] W fun e w' => ∃ L' al' cl', e = .returned (.slice al' L'.length cl') ∧ L'.map (·.A) = (pstep p1 x).2 ∧ FSt ls bs o bp lp g ah ap w s1 (pstep p1 x).1 L' al' cl' w') := zz (fun W hW => (hf.below hW).prs (Nat.le_trans hwz hW.size) HLP.out hpk1 HG.out x)
   have hit : i < t.size := by rw [HN.out]; exact hlt
   have hxi : t[i] = x := by
    have h1 : t.data.toList = B := HBB.out
    subst h1
    rw [← hx]
    exact (getL hit).2.symm
   have hxu : IntKind.u8.wrap (x.toNat : Int) = (x.toNat : Int) := by have := x.toNat_lt; rw [IntKind.wrap_u8]; omega
   have hnil : al0 = none → cl0 = 0 ∧ m0 = 0 := fun e => by
    subst e
    refine ⟨hf.nil, ?_⟩
    rw [← hLm]
    exact hf.nil2
   clear hwz hpk1 hsn hs1 hpp1 HR hf hib hx
   go_upto_region 4 with fail
   refine rB [6] [0,1,2,3,4,5,6,7] ?_
   repeat (first | refine oW (h := ?_) | refine oL (h := ?_))
   refine oO (h := ?_)
   intro K' hK
   go_simp
   refine (HPA.out _ ((Below.refl _ _).drew)).mono ?_
   rintro e x1 ⟨L2, al2, cl2, rfl, hL2, hf2⟩
   refine oN hK (h := ?_)
   clear hK K'
   repeat (first | refine oW (h := ?_) | refine oL (h := ?_))
   refine oD ?_
   have hwx : w.heap.size ≤ x1.heap.size := hf2.size
   have HWX := zz hwx
   obtain ⟨p2, hp2⟩ : ∃ z, (pstep p1 x).1 = z := ⟨_, rfl⟩
   have HP2 := zz hp2
   rw [hp2] at hf2
   have HF2 := zz hf2
   have HL2' := zz hL2
   clear hf2 hL2 hwx hp2
   have hlm : L2.length ≤ 2 := by
    have h1 := congrArg List.length HL2'.out
    have h2 := HL2.out
    rw [List.length_map] at h1
    omega
   go_wp2_with fail
   rename World => wo
   go_loopw [24] (fun iv wq => ∃ j : Nat, j ≤ L2.length ∧ iv = .int .i64 j ∧ Hid (FSt ls bs o bp lp g ah ap w (actsI s1 ((L2.map (·.A)).take j)) p2 L2 al2 cl2 wq)) (fun iv _ => L2.length - (intOf iv).toNat)
   case atStart => exact ⟨0, Nat.zero_le _, rfl, zz HF2.out⟩
   case round =>
    obtain ⟨j, hj, rfl, HR2⟩ := hrel
    by_cases hjl : j < L2.length
    ·have hjl' : (j : Int) < (L2.length : Int) := by omega
     have hfq := HR2.out
     have hjm : j < (L2.map (·.A)).length := by simpa using hjl
     have hsn2 := Zm8 s1 (L2.map (·.A)) hjm
     have hmem : (L2[j]).A ∈ (pstep p1 x).2 := by rw [← HL2'.out]; exact List.mem_map.2 ⟨L2[j], List.getElem_mem _, rfl⟩
     obtain ⟨b2, q2, rfl, hb2, hc2⟩ := hfq.cells hjl
     obtain ⟨s2, hs2⟩ := eX (actsI s1 ((L2.map (·.A)).take j))
     have hoks : sK s2 := by rw [← hs2]; exact HOK1.out.actsI (fun a ha => HXC.out a (by rw [← HL2'.out]; exact List.mem_of_mem_take ha))
     rw [hs2] at hfq
     have HAP : Hid (∀ W, Below wr.heap.size wr W → Calls Tryz.prog 37 #[.pointer (some ⟨bs, o, none⟩), .agg (actE L2[j]).toArray] W fun e w' => e = .returned (.tuple #[]) ∧ FSt ls bs o bp lp g ah ap w (actI s2 (L2[j]).A) p2 L2 (some ⟨b2, q2, none⟩) cl2 w') := zz (fun W hW => (hfq.below hW).app (Nat.le_trans hfq.size hW.size) HLS.out hoks HG.out hjl (HXC.out _ hmem))
     have HSN2 : Hid (actsI s1 ((L2.map (·.A)).take (j + 1)) = actI s2 (L2[j]).A) := zz (by rw [hsn2, hs2]; simp)
     obtain ⟨r, hr⟩ := eX (L2[j])
     rw [hr] at HAP HSN2 hc2
     have c_0 := hc2 0 _ rfl
     have c_1 := hc2 1 _ rfl
     have c_2 := hc2 2 _ rfl
     have c_3 := hc2 3 _ rfl
     have c_4 := hc2 4 _ rfl
     obtain ⟨ln, hln⟩ := eX (r.A.args.length)
     rw [hln] at c_3
     simp only [Nat.add_zero] at c_0
     have HLN := zz hln
     clear hc2 hfq hsn2 hjm hmem hs2 hoks hr hln
     go_upto_region 8 with fail
     obtain ⟨x2, hx2⟩ := eX (wr.alloc (.cells #[.int .i64 r.A.kind, .int .i64 r.A.n, .bool r.A.priv, .slice r.aa ln r.ca, .string r.A.text] 38))
     have HB2 : Hid (Below wr.heap.size wr x2) := zz (by rw [← hx2]; exact bA)
     have hbx : Bx x2 wr.heap.size [.int .i64 r.A.kind, .int .i64 r.A.n, .bool r.A.priv, .slice r.aa ln r.ca, .string r.A.text] := by rw [← hx2]; exact Bx.new _ _ _
     rw [hx2]
     clear hx2 c_0 c_1 c_2 c_3 c_4
     have c_0 := hbx.c 0
     have c_1 := hbx.c 1
     have c_2 := hbx.c 2
     have c_3 := hbx.c 3
     have c_4 := hbx.c 4
     have c_l := hbx.lt
     clear hbx
     have HAP2 : Hid (Calls Tryz.prog 37 #[.pointer (some ⟨bs, o, none⟩), .agg #[.int .i64 r.A.kind, .int .i64 r.A.n, .bool r.A.priv, .slice r.aa ln r.ca, .string r.A.text]] x2 fun e w' => e = .returned (.tuple #[]) ∧ FSt ls bs o bp lp g ah ap w (actI s2 r.A) p2 L2 (some ⟨b2, q2, none⟩) cl2 w') := zz (by have := HAP.out x2 HB2.out; rw [← HLN.out]; exact this)
     go_wp2_with fail
     refine HAP2.out.mono ?_
     rintro e x3 ⟨rfl, hf3⟩
     have HF3 := zz hf3
     clear hf3
     go_wp2_with fail
     go_roundw
     case rel => exact ⟨j + 1, by omega, by go_num, zz (by rw [HSN2.out]; exact HF3.out)⟩
     case measure => simp [intOf]; omega
    ·obtain rfl : j = L2.length := by omega
     have hfe := HR2.out
     rw [List.take_of_length_le (by simp), HL2'.out, ← HNX.out.2, ← HP2.out, ← HNX.out.1] at hfe
     have HFE := zz hfe
     clear hfe
     go_wp2_with fail
     go_roundw
     case rel => exact ⟨i + 1, al2, L2.length, cl2, by omega, by go_num, rfl, zz ⟨L2, rfl, HFE.out.size, HFE.out⟩⟩
     case measure => simp [intOf]; omega
  ·obtain rfl : i = n := by omega
   obtain ⟨L, hLm, hwz, hf⟩ := HR.out
   rw [List.take_of_length_le (by rw [HBL.out]; exact Nat.le_refl _)] at hf
   have HFE := zz hf
   clear hf
   go_wp2_with fail
   first | refine bodyPost_end (v := .tuple #[]) (by simp [results, Tryz.results46]) rfl ?_ | refine bodyPost_ret (v := .tuple #[]) (by simp [results, Tryz.results46]) rfl ?_
   exact ⟨rfl, L, al0, cl0, HFE.out⟩
end
section
open Go Go.RowKit
def AllL (P : Nat → Prop) : List Nat → Prop
 | [] => True
 | j :: l => P j ∧ AllL P l
theorem aN {P : Nat → Prop} : AllL P [] := trivial
theorem aC {P : Nat → Prop} {j : Nat} {l : List Nat} (h : P j) (k : AllL P l) : AllL P (j :: l) := ⟨h, k⟩
theorem AllL.all {P : Nat → Prop} : ∀ {l : List Nat}, AllL P l → ∀ j ∈ l, P j
 | [], _, _, h => by cases h
 | _ :: _, hp, j, h => by
   rcases List.mem_cons.1 h with rfl | h
   ·exact hp.1
   ·exact hp.2.all j h
section
variable {P : Program} {ops : Array Oper} {Q : Exit → Act → World → Prop} {S : World → Prop} {w : World} {ex rest : List Nat} {a : Act}
def erB (n : Nat) (rest rs : List Nat) : Bool := rs.all fun j => (doneA n rest).setIfInBounds j true == doneA n (rest.erase j) && rest.length == (rest.erase j).length + 1
theorem oE (rs : List Nat) (h : AllL (fun j => ∃ oi, ops[j]? = some oi ∧ ∀ K' : Act → World → Prop, Shut (∀ a w, (ex.contains j = true ∨ S w) → wpO P ops Q S ex (rest.erase j) a w → K' a w) → if Region.wanted oi (yielded ops a.tmps) = true then Oper.wp P oi a w K' Q else K' (a.put oi.dst undef) w) rs)
 (hr : Region.ready .any ops (doneA ops.size rest) = rs := by decide +kernel) (he : erB ops.size rest rs = true := by kernel_rfl) (hne : rs ≠ [] := by simp)
 (hS : S w := by assumption) : wpO P ops Q S ex rest a w := by
 refine oB (hS := hS) (rs := rs) hr hne (fun j hj => ?_)
 obtain ⟨oi, h1, h2⟩ := h.all j hj
 have h3 := List.all_eq_true.1 he j hj
 simp only [Bool.and_eq_true, beq_iff_eq] at h3
 exact ⟨oi, rest.erase j, h1, h3.1, h3.2, h2⟩
end
end
section
theorem Fr.setC {lo hi n c g : Nat} {xs : List Cl} {w : World} (h : Fr Za0 87 2 lo hi (.slice (some ⟨g, 0, none⟩) n c) xs w) {i : Nat} (hi' : i < xs.length) (k : Cl) : Fr Za0 87 2 lo hi (.slice (some ⟨g, 0, none⟩) n c) (xs.set i k) ((w.setCell ⟨g, i * 2, none⟩ (.int .i64 k.1)).setCell ⟨g, i * 2 + 1, none⟩ (.int .i64 k.2)) := by
 obtain ⟨⟨a', cap', hv, h1, h2⟩, h3⟩ := h
 cases hv
 obtain ⟨hol, ho⟩ := h2
 rcases ho with ⟨hv, _⟩ | ⟨g', cap, cur, hv, hbg, hg, hnc, hcm, hcs, htake⟩
 ·cases hv
 ·cases hv
  have e1 := heap_setCell_same w g (i * 2) cur _ (.int .i64 k.1) hg
  have e2 := heap_setCell_same (w.setCell ⟨g, i * 2, none⟩ (.int .i64 k.1)) g (i * 2 + 1) _ _ (.int .i64 k.2) e1
  have hn : xs.length * 2 ≤ c * 2 := Nat.mul_le_mul_right _ hnc
  refine ⟨⟨_, _, by rw [List.length_set], by rw [List.length_set]; exact h1, by rw [fL Za0 2 (fun _ => rfl)], .inr ⟨g, c, _, rfl, hbg, e2, by rw [List.length_set]; exact hnc, hcm, by simpa using hcs, ?_⟩⟩, fun k' hk => by have := h3 k' hk; exact this⟩
  rw [List.length_set, Array.toList_setIfInBounds, Array.toList_setIfInBounds, ← Zx8 xs i hi' k, ← htake, List.take_set, List.take_set]
end
section
theorem Za7 (a b : Int) (w : World) : Calls Tryz.prog 25 #[.int .i64 a, .int .i64 b] w fun e w' => e = .returned (.bool (inB a 2 24 && inB b 2 10)) ∧ w = w' := by
 obtain ⟨u, hu⟩ := eX (inB a 2 24)
 obtain ⟨v, hv⟩ := eX (inB b 2 10)
 have HU := zz hu
 have HV := zz hv
 rw [hu, hv]
 clear hu hv
 cases u <;> cases v
 all_goals
  go_enter Tryz.func25, Tryz.ntmps25
  go_wp2_with (go_at_call 31; refine (wI _ _ _ _).mono ?_; (first | rw [HU.out] | rw [HV.out]); rintro e w' ⟨rfl, rfl⟩)
  all_goals
   go_ret
   exact ⟨rfl, rfl⟩
def rnB (n : Int) : Bool := inB n 32 1114111 && !(n == 127) && !inB n 55296 57343
theorem isRune_c (n : Int) (w : World) : Calls Tryz.prog 57 #[.int .i64 n] w fun e w' => e = .returned (.bool (rnB n)) ∧ w = w' := by
 obtain ⟨u, hu⟩ := eX (inB n 32 1114111)
 obtain ⟨v, hv⟩ := eX (inB n 55296 57343)
 have HU := zz hu
 have HV := zz hv
 have hB : rnB n = (u && !(n == 127) && !v) := by unfold rnB; rw [hu, hv]
 rw [hB]
 clear hB hu hv
 cases h127 : (n == 127) <;> cases u <;> cases v
 all_goals
  have q127 : (n != 127) = !(n == 127) := rfl
  rw [h127] at q127
  go_enter Tryz.func57, Tryz.ntmps57
  go_wp2_with (go_at_call 31; refine (wI _ _ _ _).mono ?_; (first | rw [HU.out] | rw [HV.out]); rintro e w' ⟨rfl, rfl⟩)
  all_goals
   go_ret
   exact ⟨rfl, rfl⟩
theorem celB_rn (c : Cl) : celB c = (rnB c.1 && inB c.2 0 127) := by
 unfold celB rnB inB
 rw [Bool.eq_iff_iff]
 simp only [Bool.and_eq_true, decide_eq_true_eq, Bool.not_eq_true', Bool.and_eq_false_iff, decide_eq_false_iff_not, beq_eq_false_iff_ne, ne_eq]
 omega
theorem Zv8 (c : Cl) (w : World) : Calls Tryz.prog 56 #[.agg #[.int .i64 c.1, .int .i64 c.2]] w fun e w' => e = .returned (.bool (!celB c)) ∧ Below w.heap.size w w' := by
 obtain ⟨n, k⟩ := c
 obtain ⟨u, hu⟩ := eX (rnB n)
 obtain ⟨v, hv⟩ := eX (inB k 0 127)
 have HU := zz hu
 have HV := zz hv
 rw [celB_rn]
 simp only
 rw [hu, hv]
 clear hu hv
 cases u <;> cases v
 all_goals
  go_enter Tryz.func56, Tryz.ntmps56
  go_wp2_with (first | (go_at_call 57; refine (isRune_c _ _).mono ?_; rw [HU.out]; rintro e w' ⟨rfl, rfl⟩) | (go_at_call 31; refine (wI _ _ _ _).mono ?_; rw [HV.out]; rintro e w' ⟨rfl, rfl⟩))
  all_goals
   go_ret
   exact ⟨rfl, bA⟩
end
section
theorem Zs2 (s : ScrI) (ac : Option Addr) (cc : Nat) (ah : Option Addr) (dh : Nat) (w : World) (hcl : s.cells.length ≤ 1048576) (hhl : s.hist.length ≤ 1048576)  (hk : (inB s.w 2 24 && inB s.h 2 10) = false) :
 Calls Tryz.prog 27 #[.agg #[.int .i64 s.w, .int .i64 s.h, .int .i64 s.x, .int .i64 s.y, .int .i64 s.look, .int .i64 s.top, .int .i64 s.bot, .int .i64 s.sx, .int .i64 s.sy, .string s.title, .slice ac s.cells.length cc, .slice ah s.hist.length dh]] w fun e w' => e = .returned (.bool false) ∧ Below w.heap.size w w' := by
 have H1 := zz hk
 clear hk 
 obtain ⟨nc, hnc⟩ := eX (s.cells.length)
 obtain ⟨nh, hnh⟩ := eX (s.hist.length)
 have HNC := zz hnc
 have HNH := zz hnh
 rw [hnc, hnh]
 rw [hnc] at hcl
 rw [hnh] at hhl
 clear hnc hnh
 go_enter Tryz.func27, Tryz.ntmps27
 simp only [List.append_eq, List.cons_append, List.nil_append]
 go_wp2_with (go_at_call 28; refine (Za5 _ _ _).mono ?_; rw [H1.out]; rintro e w' ⟨rfl, rfl⟩)
 go_ret
 exact ⟨rfl, bA⟩
theorem Zs8 (s : ScrI) (ac : Option Addr) (cc : Nat) (ah : Option Addr) (dh : Nat) (w : World) (hcl : s.cells.length ≤ 1048576) (hhl : s.hist.length ≤ 1048576) (h1 : (inB s.w 2 24 && inB s.h 2 10) = true) (hk : inB s.x 0 s.w = false) :
 Calls Tryz.prog 27 #[.agg #[.int .i64 s.w, .int .i64 s.h, .int .i64 s.x, .int .i64 s.y, .int .i64 s.look, .int .i64 s.top, .int .i64 s.bot, .int .i64 s.sx, .int .i64 s.sy, .string s.title, .slice ac s.cells.length cc, .slice ah s.hist.length dh]] w fun e w' => e = .returned (.bool false) ∧ Below w.heap.size w w' := by
 have H1 := zz h1
 have H2 := zz hk
 clear hk h1
 have hw2 := iB1 H1.out
 have hh2 := iB2 H1.out
 obtain ⟨hw2a, hw2b⟩ := hw2
 obtain ⟨hh2a, hh2b⟩ := hh2
 obtain ⟨nc, hnc⟩ := eX (s.cells.length)
 obtain ⟨nh, hnh⟩ := eX (s.hist.length)
 have HNC := zz hnc
 have HNH := zz hnh
 rw [hnc, hnh]
 rw [hnc] at hcl
 rw [hnh] at hhl
 clear hnc hnh
 go_enter Tryz.func27, Tryz.ntmps27
 simp only [List.append_eq, List.cons_append, List.nil_append]
 go_wp2_with (first | (go_at_call 28; refine (Za5 _ _ _).mono ?_; rw [H1.out]; rintro e w' ⟨rfl, rfl⟩) | (go_at_call 60; refine (lI _ _ _ _).mono ?_; (first | rw [H2.out]); rintro e w' ⟨rfl, rfl⟩))
 go_ret
 exact ⟨rfl, bA⟩
theorem Zu0 (s : ScrI) (ac : Option Addr) (cc : Nat) (ah : Option Addr) (dh : Nat) (w : World) (hcl : s.cells.length ≤ 1048576) (hhl : s.hist.length ≤ 1048576) (h1 : (inB s.w 2 24 && inB s.h 2 10) = true) (h2 : inB s.x 0 s.w = true) (hk : inB s.y 0 (s.h - 1) = false) :
 Calls Tryz.prog 27 #[.agg #[.int .i64 s.w, .int .i64 s.h, .int .i64 s.x, .int .i64 s.y, .int .i64 s.look, .int .i64 s.top, .int .i64 s.bot, .int .i64 s.sx, .int .i64 s.sy, .string s.title, .slice ac s.cells.length cc, .slice ah s.hist.length dh]] w fun e w' => e = .returned (.bool false) ∧ Below w.heap.size w w' := by
 have H1 := zz h1
 have H2 := zz h2
 have H3 := zz hk
 clear hk h1 h2
 have hw2 := iB1 H1.out
 have hh2 := iB2 H1.out
 obtain ⟨hw2a, hw2b⟩ := hw2
 obtain ⟨hh2a, hh2b⟩ := hh2
 obtain ⟨nc, hnc⟩ := eX (s.cells.length)
 obtain ⟨nh, hnh⟩ := eX (s.hist.length)
 have HNC := zz hnc
 have HNH := zz hnh
 rw [hnc, hnh]
 rw [hnc] at hcl
 rw [hnh] at hhl
 clear hnc hnh
 go_enter Tryz.func27, Tryz.ntmps27
 simp only [List.append_eq, List.cons_append, List.nil_append]
 go_wp2_with (first | (go_at_call 28; refine (Za5 _ _ _).mono ?_; rw [H1.out]; rintro e w' ⟨rfl, rfl⟩) | (go_at_call 60; refine (lI _ _ _ _).mono ?_; (first | rw [H2.out] | rw [H3.out]); rintro e w' ⟨rfl, rfl⟩))
 go_ret
 exact ⟨rfl, bA⟩
theorem Zu2 (s : ScrI) (ac : Option Addr) (cc : Nat) (ah : Option Addr) (dh : Nat) (w : World) (hcl : s.cells.length ≤ 1048576) (hhl : s.hist.length ≤ 1048576) (h1 : (inB s.w 2 24 && inB s.h 2 10) = true) (h2 : inB s.x 0 s.w = true) (h3 : inB s.y 0 (s.h - 1) = true) (hk : inB s.look 0 127 = false) :
 Calls Tryz.prog 27 #[.agg #[.int .i64 s.w, .int .i64 s.h, .int .i64 s.x, .int .i64 s.y, .int .i64 s.look, .int .i64 s.top, .int .i64 s.bot, .int .i64 s.sx, .int .i64 s.sy, .string s.title, .slice ac s.cells.length cc, .slice ah s.hist.length dh]] w fun e w' => e = .returned (.bool false) ∧ Below w.heap.size w w' := by
 have H1 := zz h1
 have H2 := zz h2
 have H3 := zz h3
 have H4 := zz hk
 clear hk h1 h2 h3
 have hw2 := iB1 H1.out
 have hh2 := iB2 H1.out
 obtain ⟨hw2a, hw2b⟩ := hw2
 obtain ⟨hh2a, hh2b⟩ := hh2
 obtain ⟨nc, hnc⟩ := eX (s.cells.length)
 obtain ⟨nh, hnh⟩ := eX (s.hist.length)
 have HNC := zz hnc
 have HNH := zz hnh
 rw [hnc, hnh]
 rw [hnc] at hcl
 rw [hnh] at hhl
 clear hnc hnh
 go_enter Tryz.func27, Tryz.ntmps27
 simp only [List.append_eq, List.cons_append, List.nil_append]
 go_wp2_with (first | (go_at_call 28; refine (Za5 _ _ _).mono ?_; rw [H1.out]; rintro e w' ⟨rfl, rfl⟩) | (go_at_call 60; refine (lI _ _ _ _).mono ?_; (first | rw [H2.out] | rw [H3.out] | rw [H4.out]); rintro e w' ⟨rfl, rfl⟩))
 go_ret
 exact ⟨rfl, bA⟩
theorem Zq7 (s : ScrI) (ac : Option Addr) (cc : Nat) (ah : Option Addr) (dh : Nat) (w : World) (hcl : s.cells.length ≤ 1048576) (hhl : s.hist.length ≤ 1048576) (h1 : (inB s.w 2 24 && inB s.h 2 10) = true) (h2 : inB s.x 0 s.w = true) (h3 : inB s.y 0 (s.h - 1) = true) (h4 : inB s.look 0 127 = true) (hk : inB s.top 0 (s.h - 2) = false) :
 Calls Tryz.prog 27 #[.agg #[.int .i64 s.w, .int .i64 s.h, .int .i64 s.x, .int .i64 s.y, .int .i64 s.look, .int .i64 s.top, .int .i64 s.bot, .int .i64 s.sx, .int .i64 s.sy, .string s.title, .slice ac s.cells.length cc, .slice ah s.hist.length dh]] w fun e w' => e = .returned (.bool false) ∧ Below w.heap.size w w' := by
 have H1 := zz h1
 have H2 := zz h2
 have H3 := zz h3
 have H4 := zz h4
 have H5 := zz hk
 clear hk h1 h2 h3 h4
 have hw2 := iB1 H1.out
 have hh2 := iB2 H1.out
 obtain ⟨hw2a, hw2b⟩ := hw2
 obtain ⟨hh2a, hh2b⟩ := hh2
 obtain ⟨nc, hnc⟩ := eX (s.cells.length)
 obtain ⟨nh, hnh⟩ := eX (s.hist.length)
 have HNC := zz hnc
 have HNH := zz hnh
 rw [hnc, hnh]
 rw [hnc] at hcl
 rw [hnh] at hhl
 clear hnc hnh
 go_enter Tryz.func27, Tryz.ntmps27
 simp only [List.append_eq, List.cons_append, List.nil_append]
 go_wp2_with (first | (go_at_call 28; refine (Za5 _ _ _).mono ?_; rw [H1.out]; rintro e w' ⟨rfl, rfl⟩) | (go_at_call 60; refine (lI _ _ _ _).mono ?_; (first | rw [H2.out] | rw [H3.out] | rw [H4.out] | rw [H5.out]); rintro e w' ⟨rfl, rfl⟩))
 go_ret
 exact ⟨rfl, bA⟩
theorem Zt4 (s : ScrI) (ac : Option Addr) (cc : Nat) (ah : Option Addr) (dh : Nat) (w : World) (hcl : s.cells.length ≤ 1048576) (hhl : s.hist.length ≤ 1048576) (h1 : (inB s.w 2 24 && inB s.h 2 10) = true) (h2 : inB s.x 0 s.w = true) (h3 : inB s.y 0 (s.h - 1) = true) (h4 : inB s.look 0 127 = true) (h5 : inB s.top 0 (s.h - 2) = true) (hk : inB s.bot (s.top + 1) (s.h - 1) = false) :
 Calls Tryz.prog 27 #[.agg #[.int .i64 s.w, .int .i64 s.h, .int .i64 s.x, .int .i64 s.y, .int .i64 s.look, .int .i64 s.top, .int .i64 s.bot, .int .i64 s.sx, .int .i64 s.sy, .string s.title, .slice ac s.cells.length cc, .slice ah s.hist.length dh]] w fun e w' => e = .returned (.bool false) ∧ Below w.heap.size w w' := by
 have H1 := zz h1
 have H2 := zz h2
 have H3 := zz h3
 have H4 := zz h4
 have H5 := zz h5
 have H6 := zz hk
 clear hk h1 h2 h3 h4 h5
 have hw2 := iB1 H1.out
 have hh2 := iB2 H1.out
 obtain ⟨hw2a, hw2b⟩ := hw2
 obtain ⟨hh2a, hh2b⟩ := hh2
 have ht2 := iB0 H5.out
 obtain ⟨ht2a, ht2b⟩ := ht2
 obtain ⟨nc, hnc⟩ := eX (s.cells.length)
 obtain ⟨nh, hnh⟩ := eX (s.hist.length)
 have HNC := zz hnc
 have HNH := zz hnh
 rw [hnc, hnh]
 rw [hnc] at hcl
 rw [hnh] at hhl
 clear hnc hnh
 go_enter Tryz.func27, Tryz.ntmps27
 simp only [List.append_eq, List.cons_append, List.nil_append]
 go_wp2_with (first | (go_at_call 28; refine (Za5 _ _ _).mono ?_; rw [H1.out]; rintro e w' ⟨rfl, rfl⟩) | (go_at_call 60; refine (lI _ _ _ _).mono ?_; (first | rw [H2.out] | rw [H3.out] | rw [H4.out] | rw [H5.out] | rw [H6.out]); rintro e w' ⟨rfl, rfl⟩))
 go_ret
 exact ⟨rfl, bA⟩
theorem Zt9 (s : ScrI) (ac : Option Addr) (cc : Nat) (ah : Option Addr) (dh : Nat) (w : World) (hcl : s.cells.length ≤ 1048576) (hhl : s.hist.length ≤ 1048576) (h1 : (inB s.w 2 24 && inB s.h 2 10) = true) (h2 : inB s.x 0 s.w = true) (h3 : inB s.y 0 (s.h - 1) = true) (h4 : inB s.look 0 127 = true) (h5 : inB s.top 0 (s.h - 2) = true) (h6 : inB s.bot (s.top + 1) (s.h - 1) = true) (hk : inB s.sx 0 s.w = false) :
 Calls Tryz.prog 27 #[.agg #[.int .i64 s.w, .int .i64 s.h, .int .i64 s.x, .int .i64 s.y, .int .i64 s.look, .int .i64 s.top, .int .i64 s.bot, .int .i64 s.sx, .int .i64 s.sy, .string s.title, .slice ac s.cells.length cc, .slice ah s.hist.length dh]] w fun e w' => e = .returned (.bool false) ∧ Below w.heap.size w w' := by
 have H1 := zz h1
 have H2 := zz h2
 have H3 := zz h3
 have H4 := zz h4
 have H5 := zz h5
 have H6 := zz h6
 have H7 := zz hk
 clear hk h1 h2 h3 h4 h5 h6
 have hw2 := iB1 H1.out
 have hh2 := iB2 H1.out
 obtain ⟨hw2a, hw2b⟩ := hw2
 obtain ⟨hh2a, hh2b⟩ := hh2
 have ht2 := iB0 H5.out
 obtain ⟨ht2a, ht2b⟩ := ht2
 obtain ⟨nc, hnc⟩ := eX (s.cells.length)
 obtain ⟨nh, hnh⟩ := eX (s.hist.length)
 have HNC := zz hnc
 have HNH := zz hnh
 rw [hnc, hnh]
 rw [hnc] at hcl
 rw [hnh] at hhl
 clear hnc hnh
 go_enter Tryz.func27, Tryz.ntmps27
 simp only [List.append_eq, List.cons_append, List.nil_append]
 go_wp2_with (first | (go_at_call 28; refine (Za5 _ _ _).mono ?_; rw [H1.out]; rintro e w' ⟨rfl, rfl⟩) | (go_at_call 60; refine (lI _ _ _ _).mono ?_; (first | rw [H2.out] | rw [H3.out] | rw [H4.out] | rw [H5.out] | rw [H6.out] | rw [H7.out]); rintro e w' ⟨rfl, rfl⟩))
 go_ret
 exact ⟨rfl, bA⟩
theorem Zu1 (s : ScrI) (ac : Option Addr) (cc : Nat) (ah : Option Addr) (dh : Nat) (w : World) (hcl : s.cells.length ≤ 1048576) (hhl : s.hist.length ≤ 1048576) (h1 : (inB s.w 2 24 && inB s.h 2 10) = true) (h2 : inB s.x 0 s.w = true) (h3 : inB s.y 0 (s.h - 1) = true) (h4 : inB s.look 0 127 = true) (h5 : inB s.top 0 (s.h - 2) = true) (h6 : inB s.bot (s.top + 1) (s.h - 1) = true) (h7 : inB s.sx 0 s.w = true) (hk : inB s.sy 0 (s.h - 1) = false) :
 Calls Tryz.prog 27 #[.agg #[.int .i64 s.w, .int .i64 s.h, .int .i64 s.x, .int .i64 s.y, .int .i64 s.look, .int .i64 s.top, .int .i64 s.bot, .int .i64 s.sx, .int .i64 s.sy, .string s.title, .slice ac s.cells.length cc, .slice ah s.hist.length dh]] w fun e w' => e = .returned (.bool false) ∧ Below w.heap.size w w' := by
 have H1 := zz h1
 have H2 := zz h2
 have H3 := zz h3
 have H4 := zz h4
 have H5 := zz h5
 have H6 := zz h6
 have H7 := zz h7
 have H8 := zz hk
 clear hk h1 h2 h3 h4 h5 h6 h7
 have hw2 := iB1 H1.out
 have hh2 := iB2 H1.out
 obtain ⟨hw2a, hw2b⟩ := hw2
 obtain ⟨hh2a, hh2b⟩ := hh2
 have ht2 := iB0 H5.out
 obtain ⟨ht2a, ht2b⟩ := ht2
 obtain ⟨nc, hnc⟩ := eX (s.cells.length)
 obtain ⟨nh, hnh⟩ := eX (s.hist.length)
 have HNC := zz hnc
 have HNH := zz hnh
 rw [hnc, hnh]
 rw [hnc] at hcl
 rw [hnh] at hhl
 clear hnc hnh
 go_enter Tryz.func27, Tryz.ntmps27
 simp only [List.append_eq, List.cons_append, List.nil_append]
 go_wp2_with (first | (go_at_call 28; refine (Za5 _ _ _).mono ?_; rw [H1.out]; rintro e w' ⟨rfl, rfl⟩) | (go_at_call 60; refine (lI _ _ _ _).mono ?_; (first | rw [H2.out] | rw [H3.out] | rw [H4.out] | rw [H5.out] | rw [H6.out] | rw [H7.out] | rw [H8.out]); rintro e w' ⟨rfl, rfl⟩))
 go_ret
 exact ⟨rfl, bA⟩
theorem Zs4 (s : ScrI) (ac : Option Addr) (cc : Nat) (ah : Option Addr) (dh : Nat) (w : World) (hcl : s.cells.length ≤ 1048576) (hhl : s.hist.length ≤ 1048576) (h1 : (inB s.w 2 24 && inB s.h 2 10) = true) (h2 : inB s.x 0 s.w = true) (h3 : inB s.y 0 (s.h - 1) = true) (h4 : inB s.look 0 127 = true) (h5 : inB s.top 0 (s.h - 2) = true) (h6 : inB s.bot (s.top + 1) (s.h - 1) = true) (h7 : inB s.sx 0 s.w = true) (h8 : inB s.sy 0 (s.h - 1) = true) (hk : decide (s.title.size ≤ 40) = false) :
 Calls Tryz.prog 27 #[.agg #[.int .i64 s.w, .int .i64 s.h, .int .i64 s.x, .int .i64 s.y, .int .i64 s.look, .int .i64 s.top, .int .i64 s.bot, .int .i64 s.sx, .int .i64 s.sy, .string s.title, .slice ac s.cells.length cc, .slice ah s.hist.length dh]] w fun e w' => e = .returned (.bool false) ∧ Below w.heap.size w w' := by
 have H1 := zz h1
 have H2 := zz h2
 have H3 := zz h3
 have H4 := zz h4
 have H5 := zz h5
 have H6 := zz h6
 have H7 := zz h7
 have H8 := zz h8
 have H9 := zz hk
 clear hk h1 h2 h3 h4 h5 h6 h7 h8
 have hw2 := iB1 H1.out
 have hh2 := iB2 H1.out
 obtain ⟨hw2a, hw2b⟩ := hw2
 obtain ⟨hh2a, hh2b⟩ := hh2
 have ht2 := iB0 H5.out
 obtain ⟨ht2a, ht2b⟩ := ht2
 obtain ⟨nc, hnc⟩ := eX (s.cells.length)
 obtain ⟨nh, hnh⟩ := eX (s.hist.length)
 have HNC := zz hnc
 have HNH := zz hnh
 rw [hnc, hnh]
 rw [hnc] at hcl
 rw [hnh] at hhl
 clear hnc hnh
 have h40 : (40 : Int) < (s.title.size : Int) := by have := H9.out; simp only [decide_eq_false_iff_not] at this; omega
 go_enter Tryz.func27, Tryz.ntmps27
 simp only [List.append_eq, List.cons_append, List.nil_append]
 go_wp2_with (first | (go_at_call 28; refine (Za5 _ _ _).mono ?_; rw [H1.out]; rintro e w' ⟨rfl, rfl⟩) | (go_at_call 60; refine (lI _ _ _ _).mono ?_; (first | rw [H2.out] | rw [H3.out] | rw [H4.out] | rw [H5.out] | rw [H6.out] | rw [H7.out] | rw [H8.out]); rintro e w' ⟨rfl, rfl⟩))
 go_ret
 exact ⟨rfl, bA⟩
theorem Zp3 (s : ScrI) (ac : Option Addr) (cc : Nat) (ah : Option Addr) (dh : Nat) (w : World) (hcl : s.cells.length ≤ 1048576) (hhl : s.hist.length ≤ 1048576) (h1 : (inB s.w 2 24 && inB s.h 2 10) = true) (h2 : inB s.x 0 s.w = true) (h3 : inB s.y 0 (s.h - 1) = true) (h4 : inB s.look 0 127 = true) (h5 : inB s.top 0 (s.h - 2) = true) (h6 : inB s.bot (s.top + 1) (s.h - 1) = true) (h7 : inB s.sx 0 s.w = true) (h8 : inB s.sy 0 (s.h - 1) = true) (h9 : decide (s.title.size ≤ 40) = true) (hk : decide ((s.cells.length : Int) = s.w * s.h) = false) :
 Calls Tryz.prog 27 #[.agg #[.int .i64 s.w, .int .i64 s.h, .int .i64 s.x, .int .i64 s.y, .int .i64 s.look, .int .i64 s.top, .int .i64 s.bot, .int .i64 s.sx, .int .i64 s.sy, .string s.title, .slice ac s.cells.length cc, .slice ah s.hist.length dh]] w fun e w' => e = .returned (.bool false) ∧ Below w.heap.size w w' := by
 have H1 := zz h1
 have H2 := zz h2
 have H3 := zz h3
 have H4 := zz h4
 have H5 := zz h5
 have H6 := zz h6
 have H7 := zz h7
 have H8 := zz h8
 have H9 := zz h9
 have H10 := zz hk
 clear hk h1 h2 h3 h4 h5 h6 h7 h8 h9
 have hw2 := iB1 H1.out
 have hh2 := iB2 H1.out
 obtain ⟨hw2a, hw2b⟩ := hw2
 obtain ⟨hh2a, hh2b⟩ := hh2
 have ht2 := iB0 H5.out
 obtain ⟨ht2a, ht2b⟩ := ht2
 obtain ⟨pr, hpr⟩ := eX (s.w * s.h)
 have hpr0 : 0 ≤ pr := by rw [← hpr]; exact Int.mul_nonneg (by omega) (by omega)
 have hpr1 : pr ≤ 240 := by rw [← hpr]; exact Int.le_trans (Int.mul_le_mul_of_nonneg_right hw2b (by omega)) (by omega)
 obtain ⟨nc, hnc⟩ := eX (s.cells.length)
 obtain ⟨nh, hnh⟩ := eX (s.hist.length)
 have HNC := zz hnc
 have HNH := zz hnh
 rw [hnc, hnh]
 rw [hnc] at hcl
 rw [hnh] at hhl
 clear hnc hnh
 have h40 : ¬ (s.title.size : Int) > 40 := by have := H9.out; simp only [decide_eq_true_eq] at this; omega
 have hq : ((nc : Int) != pr) = true := by have := H10.out; rw [HNC.out, hpr] at this; simp only [decide_eq_false_iff_not] at this; simp [this]
 go_enter Tryz.func27, Tryz.ntmps27
 simp only [List.append_eq, List.cons_append, List.nil_append]
 go_wp2_with (first | (go_at_call 28; refine (Za5 _ _ _).mono ?_; rw [H1.out]; rintro e w' ⟨rfl, rfl⟩) | (go_at_call 60; refine (lI _ _ _ _).mono ?_; (first | rw [H2.out] | rw [H3.out] | rw [H4.out] | rw [H5.out] | rw [H6.out] | rw [H7.out] | rw [H8.out]); rintro e w' ⟨rfl, rfl⟩))
 go_ret
 exact ⟨rfl, bA⟩
theorem Zp2 (s : ScrI) (ac : Option Addr) (cc : Nat) (ah : Option Addr) (dh : Nat) (w : World) (hcl : s.cells.length ≤ 1048576) (hhl : s.hist.length ≤ 1048576) (h1 : (inB s.w 2 24 && inB s.h 2 10) = true) (h2 : inB s.x 0 s.w = true) (h3 : inB s.y 0 (s.h - 1) = true) (h4 : inB s.look 0 127 = true) (h5 : inB s.top 0 (s.h - 2) = true) (h6 : inB s.bot (s.top + 1) (s.h - 1) = true) (h7 : inB s.sx 0 s.w = true) (h8 : inB s.sy 0 (s.h - 1) = true) (h9 : decide (s.title.size ≤ 40) = true) (h10 : decide ((s.cells.length : Int) = s.w * s.h) = true) (hk : decide (s.hist.length ≤ 6) = false) :
 Calls Tryz.prog 27 #[.agg #[.int .i64 s.w, .int .i64 s.h, .int .i64 s.x, .int .i64 s.y, .int .i64 s.look, .int .i64 s.top, .int .i64 s.bot, .int .i64 s.sx, .int .i64 s.sy, .string s.title, .slice ac s.cells.length cc, .slice ah s.hist.length dh]] w fun e w' => e = .returned (.bool false) ∧ Below w.heap.size w w' := by
 have H1 := zz h1
 have H2 := zz h2
 have H3 := zz h3
 have H4 := zz h4
 have H5 := zz h5
 have H6 := zz h6
 have H7 := zz h7
 have H8 := zz h8
 have H9 := zz h9
 have H10 := zz h10
 have H11 := zz hk
 clear hk h1 h2 h3 h4 h5 h6 h7 h8 h9 h10
 have hw2 := iB1 H1.out
 have hh2 := iB2 H1.out
 obtain ⟨hw2a, hw2b⟩ := hw2
 obtain ⟨hh2a, hh2b⟩ := hh2
 have ht2 := iB0 H5.out
 obtain ⟨ht2a, ht2b⟩ := ht2
 obtain ⟨pr, hpr⟩ := eX (s.w * s.h)
 have hpr0 : 0 ≤ pr := by rw [← hpr]; exact Int.mul_nonneg (by omega) (by omega)
 have hpr1 : pr ≤ 240 := by rw [← hpr]; exact Int.le_trans (Int.mul_le_mul_of_nonneg_right hw2b (by omega)) (by omega)
 obtain ⟨nc, hnc⟩ := eX (s.cells.length)
 obtain ⟨nh, hnh⟩ := eX (s.hist.length)
 have HNC := zz hnc
 have HNH := zz hnh
 rw [hnc, hnh]
 rw [hnc] at hcl
 rw [hnh] at hhl
 clear hnc hnh
 have h40 : ¬ (s.title.size : Int) > 40 := by have := H9.out; simp only [decide_eq_true_eq] at this; omega
 have hq : ((nc : Int) != pr) = false := by have := H10.out; rw [HNC.out, hpr] at this; simp only [decide_eq_true_eq] at this; simp [this]
 have h6 : (6 : Int) < (nh : Int) := by have := H11.out; rw [HNH.out] at this; simp only [decide_eq_false_iff_not] at this; omega
 go_enter Tryz.func27, Tryz.ntmps27
 simp only [List.append_eq, List.cons_append, List.nil_append]
 go_wp2_with (first | (go_at_call 28; refine (Za5 _ _ _).mono ?_; rw [H1.out]; rintro e w' ⟨rfl, rfl⟩) | (go_at_call 60; refine (lI _ _ _ _).mono ?_; (first | rw [H2.out] | rw [H3.out] | rw [H4.out] | rw [H5.out] | rw [H6.out] | rw [H7.out] | rw [H8.out]); rintro e w' ⟨rfl, rfl⟩))
 go_ret
 exact ⟨rfl, bA⟩
end
section
theorem Zd7 {α : Type} {p : α → Bool} {l : List α} {k : Nat} (hk : k < l.length) : (l.take (k + 1)).all p = ((l.take k).all p && p l[k]) := by
 rw [List.take_succ_eq_append_getElem hk, List.all_append]
 simp
theorem Ye6 {α : Type} {p : α → Bool} {l : List α} {k : Nat} (hk : k < l.length) (h : p l[k] = false) : l.all p = false := by
 rw [List.all_eq_false]
 exact ⟨l[k], List.getElem_mem hk, by simp [h]⟩
theorem Zr3 (s : ScrI) (ac : Option Addr) (cc : Nat) (ah : Option Addr) (dh : Nat) (w : World) (ha : Sl Za0 2 w ac s.cells) (hb : Sl sE 1 w ah s.hist) (h1 : (inB s.w 2 24 && inB s.h 2 10) = true) (h2 : inB s.x 0 s.w = true) (h3 : inB s.y 0 (s.h - 1) = true) (h4 : inB s.look 0 127 = true) (h5 : inB s.top 0 (s.h - 2) = true) (h6 : inB s.bot (s.top + 1) (s.h - 1) = true) (h7 : inB s.sx 0 s.w = true) (h8 : inB s.sy 0 (s.h - 1) = true) (h9 : decide (s.title.size ≤ 40) = true) (h10 : decide ((s.cells.length : Int) = s.w * s.h) = true) (h11 : decide (s.hist.length ≤ 6) = true) :
 Calls Tryz.prog 27 #[.agg #[.int .i64 s.w, .int .i64 s.h, .int .i64 s.x, .int .i64 s.y, .int .i64 s.look, .int .i64 s.top, .int .i64 s.bot, .int .i64 s.sx, .int .i64 s.sy, .string s.title, .slice ac s.cells.length cc, .slice ah s.hist.length dh]] w fun e w' => e = .returned (.bool (tiB s.title.data.toList && s.cells.all celB && s.hist.all fun t => decide (t.size ≤ 96))) ∧ Below w.heap.size w w' := by
 have H1 := zz h1
 have H2 := zz h2
 have H3 := zz h3
 have H4 := zz h4
 have H5 := zz h5
 have H6 := zz h6
 have H7 := zz h7
 have H8 := zz h8
 have H9 := zz h9
 have H10 := zz h10
 have H11 := zz h11
 clear h1 h2 h3 h4 h5 h6 h7 h8 h9 h10 h11
 have HA := zz ha
 have HBB := zz hb
 have hw2 := iB1 H1.out
 have hh2 := iB2 H1.out
 obtain ⟨hw2a, hw2b⟩ := hw2
 obtain ⟨hh2a, hh2b⟩ := hh2
 have ht2 := iB0 H5.out
 obtain ⟨ht2a, ht2b⟩ := ht2
 obtain ⟨pr, hpr⟩ := eX (s.w * s.h)
 have hpr0 : 0 ≤ pr := by rw [← hpr]; exact Int.mul_nonneg (by omega) (by omega)
 have hpr1 : pr ≤ 240 := by rw [← hpr]; exact Int.le_trans (Int.mul_le_mul_of_nonneg_right hw2b (by omega)) (by omega)
 obtain ⟨nc, hnc⟩ := eX (s.cells.length)
 obtain ⟨nh, hnh⟩ := eX (s.hist.length)
 have HNC := zz hnc
 have HNH := zz hnh
 rw [hnc, hnh]
 clear hnc hnh ha hb
 have h40 : ¬ (s.title.size : Int) > 40 := by have := H9.out; simp only [decide_eq_true_eq] at this; omega
 have hq : ((nc : Int) != pr) = false := by have := H10.out; rw [HNC.out, hpr] at this; simp only [decide_eq_true_eq] at this; simp [this]
 have h6 : ¬ (nh : Int) > 6 := by have := H11.out; rw [HNH.out] at this; simp only [decide_eq_true_eq] at this; omega
 have hnc240 : (nc : Int) ≤ 240 := by have := H10.out; rw [HNC.out, hpr] at this; simp only [decide_eq_true_eq] at this; omega
 obtain ⟨T, hT⟩ := eX (s.title)
 have HT := zz hT
 rw [hT] at h40 ⊢
 clear hT
 obtain ⟨W1, hW1⟩ := eX (w.alloc (.cells #[.int .i64 s.w, .int .i64 s.h, .int .i64 s.x, .int .i64 s.y, .int .i64 s.look, .int .i64 s.top, .int .i64 s.bot, .int .i64 s.sx, .int .i64 s.sy, .string T, .slice ac nc cc, .slice ah nh dh] 26))
 have HB1 : Hid (Below w.heap.size w W1) := zz (by rw [← hW1]; exact bA)
 have k_0 : W1.cell? ⟨w.heap.size, 0, none⟩ = some (.int .i64 s.w) := by rw [← hW1]; simp [go_sem]
 have k_1 : W1.cell? ⟨w.heap.size, 1, none⟩ = some (.int .i64 s.h) := by rw [← hW1]; simp [go_sem]
 have k_2 : W1.cell? ⟨w.heap.size, 2, none⟩ = some (.int .i64 s.x) := by rw [← hW1]; simp [go_sem]
 have k_3 : W1.cell? ⟨w.heap.size, 3, none⟩ = some (.int .i64 s.y) := by rw [← hW1]; simp [go_sem]
 have k_4 : W1.cell? ⟨w.heap.size, 4, none⟩ = some (.int .i64 s.look) := by rw [← hW1]; simp [go_sem]
 have k_5 : W1.cell? ⟨w.heap.size, 5, none⟩ = some (.int .i64 s.top) := by rw [← hW1]; simp [go_sem]
 have k_6 : W1.cell? ⟨w.heap.size, 6, none⟩ = some (.int .i64 s.bot) := by rw [← hW1]; simp [go_sem]
 have k_7 : W1.cell? ⟨w.heap.size, 7, none⟩ = some (.int .i64 s.sx) := by rw [← hW1]; simp [go_sem]
 have k_8 : W1.cell? ⟨w.heap.size, 8, none⟩ = some (.int .i64 s.sy) := by rw [← hW1]; simp [go_sem]
 have k_9 : W1.cell? ⟨w.heap.size, 9, none⟩ = some (.string T) := by rw [← hW1]; simp [go_sem]
 have k_10 : W1.cell? ⟨w.heap.size, 10, none⟩ = some (.slice ac nc cc) := by rw [← hW1]; simp [go_sem]
 have k_11 : W1.cell? ⟨w.heap.size, 11, none⟩ = some (.slice ah nh dh) := by rw [← hW1]; simp [go_sem]
 have k_l : w.heap.size < W1.heap.size := by rw [← hW1]; simp
 obtain ⟨R, hR⟩ : ∃ R, (tiB T.data.toList && s.cells.all celB && s.hist.all fun t => decide (t.size ≤ 96)) = R := ⟨_, rfl⟩
 have HRR := zz hR
 rw [hR]
 clear hR
 go_enter Tryz.func27, Tryz.ntmps27
 simp only [List.append_eq, List.cons_append, List.nil_append]
 go_upto_region 3 with (first | (go_at_call 28; refine (Za5 _ _ _).mono ?_; rw [H1.out]; rintro e w' ⟨rfl, rfl⟩) | (go_at_call 60; refine (lI _ _ _ _).mono ?_; (first | rw [H2.out] | rw [H3.out] | rw [H4.out] | rw [H5.out] | rw [H6.out] | rw [H7.out] | rw [H8.out]); rintro e w' ⟨rfl, rfl⟩))
 clear hW1 k_0 k_1 k_2 k_3 k_4 k_5 k_6 k_7 k_8
 go_wp2_with fail
 go_loopw [3] (fun iv wr => ∃ k : Nat, iv = .int .i64 k ∧ k ≤ T.size ∧ Hid (tiB (T.data.toList.take k) = true) ∧ W1 = wr) (fun iv _ => T.size - (intOf iv).toNat)
 case atStart => exact ⟨0, rfl, Nat.zero_le _, rfl, rfl⟩
 case round =>
  obtain ⟨k, rfl, hk, hall, rfl⟩ := hrel
  by_cases hlt : k < T.size
  ·have hlt' : (k : Int) < (T.size : Int) := by omega
   have hi0 : (0 : Int) ≤ (k : Int) := by omega
   have hkl : k < T.data.toList.length := hlt
   obtain ⟨n, hn⟩ : ∃ n, n = (T[k]'hlt).toNat := ⟨_, rfl⟩
   have hb2 : (T[k]'hlt).toNat = n := hn.symm
   have HN : Hid ((T.data.toList[k]'hkl).toNat = n) := zz (by rw [← hb2]; rfl)
   obtain ⟨u, hu⟩ := eX (inB (n : Int) 32 126)
   have HU := zz hu
   have hp : (decide (32 ≤ (T.data.toList[k]'hkl).toNat) && decide ((T.data.toList[k]'hkl).toNat ≤ 126)) = u := by
    rw [HN.out, ← hu]
    unfold inB
    congr 1 <;> simp only [decide_eq_decide] <;> omega
   have HP := zz hp
   have hn256 : n < 256 := by rw [← hb2]; exact (T[k]'hlt).toNat_lt
   clear hn hu hp
   cases u with
   | true =>
     have HNX : Hid (tiB (T.data.toList.take (k + 1)) = true) := zz (by
      unfold tiB
      rw [Zd7 hkl, HP.out]
      exact (Bool.and_eq_true _ _).mpr ⟨hall.out, rfl⟩)
     go_wp2_with (go_at_call 60; refine (lI _ _ _ _).mono ?_; rw [HU.out]; rintro e w' ⟨rfl, rfl⟩)
     go_roundw
     case rel => exact ⟨k + 1, by go_num, by omega, HNX, trivial⟩
     case measure => simp [intOf]; omega
   | false =>
     have HNO : Hid (R = false) := zz (by
      rw [← HRR.out]
      have : tiB T.data.toList = false := Ye6 hkl HP.out
      rw [this]
      rfl)
     go_wp2_with (go_at_call 60; refine (lI _ _ _ _).mono ?_; rw [HU.out]; rintro e w' ⟨rfl, rfl⟩)
     go_ret
     exact ⟨by rw [HNO.out]; rfl, HB1.out⟩
  ·obtain rfl : k = T.size := by omega
   have HTI : Hid (tiB T.data.toList = true) := zz (by
    have := hall.out
    have e : T.data.toList.take T.size = T.data.toList := List.take_of_length_le (Nat.le_refl T.data.toList.length)
    rwa [e] at this)
   go_wp2_with fail
   go_loopw [4] (fun iv wr => ∃ k : Nat, iv = .int .i64 k ∧ k ≤ nc ∧ Hid ((s.cells.take k).all celB = true ∧ Below W1.heap.size W1 wr)) (fun iv _ => nc - (intOf iv).toNat)
   case atStart => exact ⟨0, rfl, Nat.zero_le _, zz ⟨rfl, Below.refl _ _⟩⟩
   case round =>
    obtain ⟨k, rfl, hk2, HQ⟩ := hrel
    have q_10 : wr.cell? ⟨w.heap.size, 10, none⟩ = some (.slice ac nc cc) := (HQ.out.2.cell (p := ⟨w.heap.size, 10, none⟩) k_l).trans k_10
    have q_11 : wr.cell? ⟨w.heap.size, 11, none⟩ = some (.slice ah nh dh) := (HQ.out.2.cell (p := ⟨w.heap.size, 11, none⟩) k_l).trans k_11
    by_cases hlt2 : k < nc
    ·have hlt' : (k : Int) < (nc : Int) := by omega
     have hkl : k < s.cells.length := by rw [HNC.out]; exact hlt2
     obtain ⟨b1, o1, rfl, hb1, hc1⟩ := ((HA.out.keep HB1.out).keep HQ.out.2).at hkl
     obtain ⟨c, hc⟩ := eX (s.cells[k])
     have c1 := hc1 k hkl 0 (by omega)
     have c2 := hc1 k hkl 1 (by omega)
     rw [hc] at c1 c2
     simp only [Za0, Nat.add_zero, List.getElem?_cons_zero, List.getElem?_cons_succ] at c1 c2
     obtain ⟨u, hu⟩ := eX (celB c)
     have HU := zz hu
     have HP : Hid (celB (s.cells[k]'hkl) = u) := zz (by rw [hc]; exact hu)
     clear hc1 hc hu
     go_wp2_with fail
     refine (Yf4 c _).mono ?_
     rw [HU.out]
     rintro e w2 ⟨rfl, hb2⟩
     have HB2 : Hid (Below W1.heap.size W1 w2) := zz (HQ.out.2.trans (hb2.mono HQ.out.2.size))
     clear hb2 HU
     cases u with
     | true =>
       go_wp2_with fail
       go_roundw
       case rel => exact ⟨k + 1, by go_num, by omega, zz ⟨by rw [Zd7 hkl, HP.out, HQ.out.1]; rfl, HB2.out⟩⟩
       case measure => simp [intOf]; omega
     | false =>
       have HNO : Hid (R = false) := zz (by
        rw [← HRR.out, Ye6 hkl HP.out]
        simp)
       go_wp2_with fail
       go_ret
       exact ⟨by rw [HNO.out]; rfl, HB1.out.trans (HB2.out.mono HB1.out.size)⟩
    ·obtain rfl : k = nc := by omega
     have HCE : Hid (s.cells.all celB = true) := zz (by
      have := HQ.out.1
      rwa [List.take_of_length_le (by rw [HNC.out]; exact Nat.le_refl _)] at this)
     obtain ⟨W2, hW2⟩ : ∃ x, x = wr := ⟨_, rfl⟩
     subst hW2
     go_wp2_with fail
     go_loopw [5] (fun iv wr => ∃ k : Nat, iv = .int .i64 k ∧ k ≤ nh ∧ Hid ((s.hist.take k).all (fun t => decide (t.size ≤ 96)) = true) ∧ W2 = wr) (fun iv _ => nh - (intOf iv).toNat)
     case atStart => exact ⟨0, rfl, Nat.zero_le _, rfl, rfl⟩
     case round =>
      obtain ⟨j, rfl, hj2, HJ, rfl⟩ := hrel
      by_cases hlt3 : j < nh
      ·have hlt' : (j : Int) < (nh : Int) := by omega
       have hkl : j < s.hist.length := by rw [HNH.out]; exact hlt3
       obtain ⟨b1, o1, rfl, hb1, hc1⟩ := ((HBB.out.keep HB1.out).keep HQ.out.2).at hkl
       obtain ⟨t, ht⟩ := eX (s.hist[j])
       have c1 := hc1 j hkl 0 (by omega)
       rw [ht] at c1
       simp only [sE, Nat.mul_one, Nat.add_zero, List.getElem?_cons_zero] at c1
       have HTT : Hid ((s.hist[j]'hkl).size = t.size) := zz (by rw [ht])
       clear hc1 ht
       by_cases h96 : t.size ≤ 96
       ·have h96' : ¬ (t.size : Int) > 96 := by omega
        go_wp2_with fail
        go_roundw
        case rel => exact ⟨j + 1, by go_num, by omega, zz (by rw [Zd7 hkl, HTT.out, HJ.out]; simp [h96]), trivial⟩
        case measure => simp [intOf]; omega
       ·have h96' : (96 : Int) < (t.size : Int) := by omega
        have HNO : Hid (R = false) := zz (by
         rw [← HRR.out, Ye6 hkl (by rw [HTT.out]; simp [h96])]
         simp)
        go_wp2_with fail
        go_ret
        exact ⟨by rw [HNO.out]; rfl, HB1.out.trans (HQ.out.2.mono HB1.out.size)⟩
      ·obtain rfl : j = nh := by omega
       have HHI : Hid (s.hist.all (fun t => decide (t.size ≤ 96)) = true) := zz (by
        have := HJ.out
        rwa [List.take_of_length_le (by rw [HNH.out]; exact Nat.le_refl _)] at this)
       go_wp2_with fail
       go_ret
       exact ⟨by rw [← HRR.out, HTI.out, HCE.out, HHI.out]; rfl, HB1.out.trans (HQ.out.2.mono HB1.out.size)⟩
theorem Zm2 (s : ScrI) (ac : Option Addr) (cc : Nat) (ah : Option Addr) (dh : Nat) (w : World) (ha : Sl Za0 2 w ac s.cells) (hb : Sl sE 1 w ah s.hist) (hcl : s.cells.length ≤ 1048576) (hhl : s.hist.length ≤ 1048576) :
 Calls Tryz.prog 27 #[.agg #[.int .i64 s.w, .int .i64 s.h, .int .i64 s.x, .int .i64 s.y, .int .i64 s.look, .int .i64 s.top, .int .i64 s.bot, .int .i64 s.sx, .int .i64 s.sy, .string s.title, .slice ac s.cells.length cc, .slice ah s.hist.length dh]] w fun e w' => e = .returned (.bool (scrB s)) ∧ Below w.heap.size w w' := by
 cases h1 : (inB s.w 2 24 && inB s.h 2 10)
 ·have e : scrB s = false := by unfold scrB scrH; rw [h1]; simp
  rw [e]
  exact Zs2 s ac cc ah dh w hcl hhl h1
 cases h2 : inB s.x 0 s.w
 ·have e : scrB s = false := by unfold scrB scrH; rw [h1, h2]; simp
  rw [e]
  exact Zs8 s ac cc ah dh w hcl hhl h1 h2
 cases h3 : inB s.y 0 (s.h - 1)
 ·have e : scrB s = false := by unfold scrB scrH; rw [h1, h2, h3]; simp
  rw [e]
  exact Zu0 s ac cc ah dh w hcl hhl h1 h2 h3
 cases h4 : inB s.look 0 127
 ·have e : scrB s = false := by unfold scrB scrH; rw [h1, h2, h3, h4]; simp
  rw [e]
  exact Zu2 s ac cc ah dh w hcl hhl h1 h2 h3 h4
 cases h5 : inB s.top 0 (s.h - 2)
 ·have e : scrB s = false := by unfold scrB scrH; rw [h1, h2, h3, h4, h5]; simp
  rw [e]
  exact Zq7 s ac cc ah dh w hcl hhl h1 h2 h3 h4 h5
 cases h6 : inB s.bot (s.top + 1) (s.h - 1)
 ·have e : scrB s = false := by unfold scrB scrH; rw [h1, h2, h3, h4, h5, h6]; simp
  rw [e]
  exact Zt4 s ac cc ah dh w hcl hhl h1 h2 h3 h4 h5 h6
 cases h7 : inB s.sx 0 s.w
 ·have e : scrB s = false := by unfold scrB scrH; rw [h1, h2, h3, h4, h5, h6, h7]; simp
  rw [e]
  exact Zt9 s ac cc ah dh w hcl hhl h1 h2 h3 h4 h5 h6 h7
 cases h8 : inB s.sy 0 (s.h - 1)
 ·have e : scrB s = false := by unfold scrB scrH; rw [h1, h2, h3, h4, h5, h6, h7, h8]; simp
  rw [e]
  exact Zu1 s ac cc ah dh w hcl hhl h1 h2 h3 h4 h5 h6 h7 h8
 cases h9 : decide (s.title.size ≤ 40)
 ·have e : scrB s = false := by unfold scrB scrH; rw [h1, h2, h3, h4, h5, h6, h7, h8, h9]; simp
  rw [e]
  exact Zs4 s ac cc ah dh w hcl hhl h1 h2 h3 h4 h5 h6 h7 h8 h9
 cases h10 : decide ((s.cells.length : Int) = s.w * s.h)
 ·have e : scrB s = false := by unfold scrB scrH; rw [h1, h2, h3, h4, h5, h6, h7, h8, h9, h10]; simp
  rw [e]
  exact Zp3 s ac cc ah dh w hcl hhl h1 h2 h3 h4 h5 h6 h7 h8 h9 h10
 cases h11 : decide (s.hist.length ≤ 6)
 ·have e : scrB s = false := by unfold scrB scrH; rw [h1, h2, h3, h4, h5, h6, h7, h8, h9, h10, h11]; simp
  rw [e]
  exact Zp2 s ac cc ah dh w hcl hhl h1 h2 h3 h4 h5 h6 h7 h8 h9 h10 h11
 have e : scrB s = (tiB s.title.data.toList && s.cells.all celB && s.hist.all fun t => decide (t.size ≤ 96)) := by unfold scrB scrH; rw [h1, h2, h3, h4, h5, h6, h7, h8, h9, h10, h11]; simp
 rw [e]
 exact Zr3 s ac cc ah dh w ha hb h1 h2 h3 h4 h5 h6 h7 h8 h9 h10 h11
end
section
def ncB (c : Cl) : Bool := !celB c
def bigH (t : ByteArray) : Bool := decide (96 < t.size)
theorem Yc5 (a : Option Addr) (ca : Nat) (xs : List Cl) (w : World) (ha : Sl Za0 2 w a xs) (la : xs.length ≤ 1048576) :
 Calls Tryz.prog 94 #[.slice a xs.length ca, .func (.func 56) #[] #[]] w fun e w' => (∃ i : Int, e = .returned (.int .i64 i) ∧ Hid (decide (0 ≤ i) = xs.any ncB)) ∧ Below w.heap.size w w' := by
 have HA := zz ha
 obtain ⟨nc, hnc⟩ := eX (xs.length)
 have HNC := zz hnc
 rw [hnc] at la ⊢
 clear hnc ha
 go_enter Tryz.func94, Tryz.ntmps94
 go_wp2_with fail
 go_loopw [5, 8] (fun _ i wr => ∃ k : Nat, k ≤ nc ∧ i = .int .i64 k ∧ Hid ((xs.take k).any ncB = false ∧ Below w.heap.size w wr)) (fun _ i _ => nc - (intOf i).toNat)
 case atStart => exact ⟨0, Nat.zero_le _, rfl, zz ⟨rfl, Below.refl _ _⟩⟩
 case round =>
  obtain ⟨k, hk, rfl, HQ⟩ := hrel
  by_cases hlt : k < nc
  ·have hlt' : (k : Int) < (nc : Int) := by omega
   have hkl : k < xs.length := by rw [HNC.out]; exact hlt
   obtain ⟨b1, o1, rfl, hb1, hc1⟩ := (HA.out.keep HQ.out.2).at hkl
   obtain ⟨c, hc⟩ := eX (xs[k])
   have c1 := hc1 k hkl 0 (by omega)
   have c2 := hc1 k hkl 1 (by omega)
   rw [hc] at c1 c2
   simp only [Za0, Nat.add_zero, List.getElem?_cons_zero, List.getElem?_cons_succ] at c1 c2
   obtain ⟨u, hu⟩ := eX (celB c)
   have HCALL : ∀ W, Calls Tryz.prog 56 #[.agg #[.int .i64 c.1, .int .i64 c.2]] W fun e w' => e = .returned (.bool (!u)) ∧ Below W.heap.size W w' := fun W => by rw [← hu]; exact Zv8 c W
   have HP : Hid (ncB (xs[k]'hkl) = !u) := zz (by unfold ncB; rw [hc, hu])
   clear hc1 hc hu
   go_wp2_with fail
   refine (HCALL _).mono ?_
   rintro e w2 ⟨rfl, hb2⟩
   have HB2 : Hid (Below w.heap.size w w2) := zz (HQ.out.2.trans (hb2.mono HQ.out.2.size))
   clear hb2
   cases u with
   | true =>
     go_wp2_with fail
     go_roundw
     case rel => exact ⟨k + 1, by omega, by go_num, zz ⟨by rw [List.take_succ_eq_append_getElem hkl, List.any_append, HQ.out.1, List.any_cons, HP.out]; rfl, HB2.out⟩⟩
     case measure => simp [intOf]; omega
   | false =>
     go_wp2_with fail
     go_ret
     exact ⟨⟨_, rfl, zz (by rw [Zy0 hkl HP.out]; show decide _ = _; simp)⟩, HB2.out⟩
  ·obtain rfl : k = nc := by omega
   go_wp2_with fail
   go_ret
   refine ⟨⟨_, rfl, zz ?_⟩, HQ.out.2⟩
   have := HQ.out.1
   rw [List.take_of_length_le (by rw [HNC.out]; exact Nat.le_refl _)] at this
   rw [this]
   rfl
theorem Zi7 (a : Option Addr) (ca : Nat) (xs : List Cl) (w : World) (ha : Sl Za0 2 w a xs) (la : xs.length ≤ 1048576) :
 Calls Tryz.prog 55 #[.slice a xs.length ca, .func (.func 56) #[] #[]] w fun e w' => e = .returned (.bool (xs.any ncB)) ∧ Below w.heap.size w w' := by
 have HA := zz ha
 clear ha
 go_enter Tryz.func55, Tryz.ntmps55
 go_wp2_with fail
 refine (Yc5 a ca xs _ HA.out la).mono ?_
 rintro e w' ⟨⟨i, rfl, hi⟩, hb⟩
 have HB := zz hb
 clear hb
 go_wp2_with fail
 go_ret
 exact ⟨by rw [← hi.out]; rfl, HB.out⟩
def Zb1 (_ : ByteArray) : Prop := True
theorem Zc4 (r : ByteArray) (w : World) (_ : Zb1 r) : Calls Tryz.prog 54 #[.string r] w fun e w' => e = .returned (.bool (bigH r)) ∧ w = w' := by
 by_cases h : 96 < r.size
 all_goals
  go_enter Tryz.func54, Tryz.ntmps54
  go_wp2_with fail
  go_ret
  exact ⟨by simp [bigH]; try omega, rfl⟩
theorem Ze6 (a : Option Addr) (ca : Nat) (xs : List ByteArray) (w : World) (ha : Sl sE 1 w a xs) (la : xs.length ≤ 1099511627776) (hq : ∀ x ∈ xs, Zb1 x) :
 Calls Tryz.prog 93 #[.slice a xs.length ca, .func (.func 54) #[] #[]] w fun e w' => (∃ i : Int, e = .returned (.int .i64 i) ∧ Hid (decide (0 ≤ i) = xs.any bigH)) ∧ w = w' := by
 have HQ := zz hq
 clear hq
 go_enter Tryz.func93, Tryz.ntmps93
 go_wp2_with fail
 go_loop [5, 8] (fun _ i => ∃ k : Nat, k ≤ xs.length ∧ i = .int .i64 k ∧ ∀ j (hj : j < xs.length), j < k → bigH xs[j] = false) (fun _ i => xs.length - (intOf i).toNat)
 case atStart => exact ⟨0, Nat.zero_le _, rfl, fun j _ h => absurd h (Nat.not_lt_zero _)⟩
 case round =>
  obtain ⟨k, hk, rfl, hp⟩ := hrel
  have HP := zz hp
  clear hp
  by_cases hlt : k < xs.length
  ·obtain ⟨b1, o1, rfl, hb1, hc1⟩ := ha.at hlt
   have c1 := hc1 k hlt 0 (by omega)
   simp only [sE, Nat.mul_one, Nat.add_zero, List.getElem?_cons_zero] at c1
   have hx := HQ.out xs[k] (List.getElem_mem _)
   clear hc1
   cases hpk : bigH xs[k]
   ·have HPK := zz hpk
    clear hpk
    go_wp2_with (go_at_call 54; refine (Zc4 xs[k] _ hx).mono ?_; rw [HPK.out]; rintro e w' ⟨rfl, rfl⟩)
    go_round
    case rel => exact ⟨k + 1, by omega, by go_num, fun j hj h => by
     rcases Nat.lt_succ_iff_lt_or_eq.1 h with h | rfl
     ·exact HP.out j hj h
     ·exact HPK.out⟩
    case measure => simp [intOf]; omega
   ·have HPK := zz hpk
    clear hpk
    go_wp2_with (go_at_call 54; refine (Zc4 xs[k] _ hx).mono ?_; rw [HPK.out]; rintro e w' ⟨rfl, rfl⟩)
    go_ret
    exact ⟨⟨_, rfl, by rw [Zy0 hlt HPK.out]; show decide _ = _; simp⟩, rfl⟩
  ·obtain rfl : k = xs.length := by omega
   go_wp2_with fail
   go_ret
   exact ⟨⟨_, rfl, by rw [Zk5 HP.out (Nat.le_refl _)]; rfl⟩, rfl⟩
theorem Za3 (a : Option Addr) (ca : Nat) (xs : List ByteArray) (w : World) (ha : Sl sE 1 w a xs) (la : xs.length ≤ 1099511627776) (hq : ∀ x ∈ xs, Zb1 x) :
 Calls Tryz.prog 53 #[.slice a xs.length ca, .func (.func 54) #[] #[]] w fun e w' => e = .returned (.bool (xs.any bigH)) ∧ w = w' := by
 have HQ := zz hq
 clear hq
 go_enter Tryz.func53, Tryz.ntmps53
 go_wp2_with fail
 refine (Ze6 a ca xs _ ha la HQ.out).mono ?_
 rintro e w' ⟨⟨i, rfl, hi⟩, rfl⟩
 go_wp2_with fail
 go_ret
 exact ⟨by rw [← hi.out]; rfl, rfl⟩
end
section
theorem Zr4 (s : ScrI) (ac : Option Addr) (cc : Nat) (ah : Option Addr) (dh : Nat) (w : World) (ha : Sl Za0 2 w ac s.cells) (hb : Sl sE 1 w ah s.hist) (hcl : s.cells.length ≤ 1048576) (hhl : s.hist.length ≤ 1048576) (htl : s.title.size ≤ 1099511627776)  (hk : (inB s.w 2 24 && inB s.h 2 10) = false) :
 Calls Tryz.prog 24 #[.agg #[.int .i64 s.w, .int .i64 s.h, .int .i64 s.x, .int .i64 s.y, .int .i64 s.look, .int .i64 s.top, .int .i64 s.bot, .int .i64 s.sx, .int .i64 s.sy, .string s.title, .slice ac s.cells.length cc, .slice ah s.hist.length dh]] w fun e w' => e = .returned (.bool false) ∧ Below w.heap.size w w' := by
 have H1 := zz hk
 have HA := zz ha
 have HBB := zz hb
 clear ha hb hk 
 obtain ⟨nc, hnc⟩ := eX (s.cells.length)
 obtain ⟨nh, hnh⟩ := eX (s.hist.length)
 have HNC := zz hnc
 have HNH := zz hnh
 rw [hnc, hnh]
 rw [hnc] at hcl
 rw [hnh] at hhl
 clear hnc hnh
 obtain ⟨T, hT⟩ := eX (s.title)
 rw [hT] at htl ⊢
 clear hT
 have HB1 : ∀ x, Hid (Below w.heap.size w (w.alloc x)) := fun x => zz (bA)
 go_enter Tryz.func24, Tryz.ntmps24
 try simp only [List.append_eq, List.cons_append, List.nil_append]
 go_wp2_with (first | (go_at_call 25; refine (Za7 _ _ _).mono ?_; rw [H1.out]; rintro e w' ⟨rfl, rfl⟩))
 go_ret
 exact ⟨rfl, bA⟩
theorem Zq3 (s : ScrI) (ac : Option Addr) (cc : Nat) (ah : Option Addr) (dh : Nat) (w : World) (ha : Sl Za0 2 w ac s.cells) (hb : Sl sE 1 w ah s.hist) (hcl : s.cells.length ≤ 1048576) (hhl : s.hist.length ≤ 1048576) (htl : s.title.size ≤ 1099511627776) (h1 : (inB s.w 2 24 && inB s.h 2 10) = true) (hk : inB s.x 0 s.w = false) :
 Calls Tryz.prog 24 #[.agg #[.int .i64 s.w, .int .i64 s.h, .int .i64 s.x, .int .i64 s.y, .int .i64 s.look, .int .i64 s.top, .int .i64 s.bot, .int .i64 s.sx, .int .i64 s.sy, .string s.title, .slice ac s.cells.length cc, .slice ah s.hist.length dh]] w fun e w' => e = .returned (.bool false) ∧ Below w.heap.size w w' := by
 have H1 := zz h1
 have H2 := zz hk
 have HA := zz ha
 have HBB := zz hb
 clear ha hb hk h1
 have hw2 := iB1 H1.out
 have hh2 := iB2 H1.out
 obtain ⟨hw2a, hw2b⟩ := hw2
 obtain ⟨hh2a, hh2b⟩ := hh2
 obtain ⟨nc, hnc⟩ := eX (s.cells.length)
 obtain ⟨nh, hnh⟩ := eX (s.hist.length)
 have HNC := zz hnc
 have HNH := zz hnh
 rw [hnc, hnh]
 rw [hnc] at hcl
 rw [hnh] at hhl
 clear hnc hnh
 obtain ⟨T, hT⟩ := eX (s.title)
 rw [hT] at htl ⊢
 clear hT
 have HB1 : ∀ x, Hid (Below w.heap.size w (w.alloc x)) := fun x => zz (bA)
 go_enter Tryz.func24, Tryz.ntmps24
 try simp only [List.append_eq, List.cons_append, List.nil_append]
 go_wp2_with (first | (go_at_call 25; refine (Za7 _ _ _).mono ?_; rw [H1.out]; rintro e w' ⟨rfl, rfl⟩) | (go_at_call 31; refine (wI _ _ _ _).mono ?_; (first | rw [H2.out]); rintro e w' ⟨rfl, rfl⟩))
 go_ret
 exact ⟨rfl, bA⟩
theorem Zr7 (s : ScrI) (ac : Option Addr) (cc : Nat) (ah : Option Addr) (dh : Nat) (w : World) (ha : Sl Za0 2 w ac s.cells) (hb : Sl sE 1 w ah s.hist) (hcl : s.cells.length ≤ 1048576) (hhl : s.hist.length ≤ 1048576) (htl : s.title.size ≤ 1099511627776) (h1 : (inB s.w 2 24 && inB s.h 2 10) = true) (h2 : inB s.x 0 s.w = true) (hk : inB s.y 0 (s.h - 1) = false) :
 Calls Tryz.prog 24 #[.agg #[.int .i64 s.w, .int .i64 s.h, .int .i64 s.x, .int .i64 s.y, .int .i64 s.look, .int .i64 s.top, .int .i64 s.bot, .int .i64 s.sx, .int .i64 s.sy, .string s.title, .slice ac s.cells.length cc, .slice ah s.hist.length dh]] w fun e w' => e = .returned (.bool false) ∧ Below w.heap.size w w' := by
 have H1 := zz h1
 have H2 := zz h2
 have H3 := zz hk
 have HA := zz ha
 have HBB := zz hb
 clear ha hb hk h1 h2
 have hw2 := iB1 H1.out
 have hh2 := iB2 H1.out
 obtain ⟨hw2a, hw2b⟩ := hw2
 obtain ⟨hh2a, hh2b⟩ := hh2
 obtain ⟨nc, hnc⟩ := eX (s.cells.length)
 obtain ⟨nh, hnh⟩ := eX (s.hist.length)
 have HNC := zz hnc
 have HNH := zz hnh
 rw [hnc, hnh]
 rw [hnc] at hcl
 rw [hnh] at hhl
 clear hnc hnh
 obtain ⟨T, hT⟩ := eX (s.title)
 rw [hT] at htl ⊢
 clear hT
 have HB1 : ∀ x, Hid (Below w.heap.size w (w.alloc x)) := fun x => zz (bA)
 go_enter Tryz.func24, Tryz.ntmps24
 try simp only [List.append_eq, List.cons_append, List.nil_append]
 go_wp2_with (first | (go_at_call 25; refine (Za7 _ _ _).mono ?_; rw [H1.out]; rintro e w' ⟨rfl, rfl⟩) | (go_at_call 31; refine (wI _ _ _ _).mono ?_; (first | rw [H2.out] | rw [H3.out]); rintro e w' ⟨rfl, rfl⟩))
 go_ret
 exact ⟨rfl, bA⟩
theorem Zr6 (s : ScrI) (ac : Option Addr) (cc : Nat) (ah : Option Addr) (dh : Nat) (w : World) (ha : Sl Za0 2 w ac s.cells) (hb : Sl sE 1 w ah s.hist) (hcl : s.cells.length ≤ 1048576) (hhl : s.hist.length ≤ 1048576) (htl : s.title.size ≤ 1099511627776) (h1 : (inB s.w 2 24 && inB s.h 2 10) = true) (h2 : inB s.x 0 s.w = true) (h3 : inB s.y 0 (s.h - 1) = true) (hk : inB s.look 0 127 = false) :
 Calls Tryz.prog 24 #[.agg #[.int .i64 s.w, .int .i64 s.h, .int .i64 s.x, .int .i64 s.y, .int .i64 s.look, .int .i64 s.top, .int .i64 s.bot, .int .i64 s.sx, .int .i64 s.sy, .string s.title, .slice ac s.cells.length cc, .slice ah s.hist.length dh]] w fun e w' => e = .returned (.bool false) ∧ Below w.heap.size w w' := by
 have H1 := zz h1
 have H2 := zz h2
 have H3 := zz h3
 have H4 := zz hk
 have HA := zz ha
 have HBB := zz hb
 clear ha hb hk h1 h2 h3
 have hw2 := iB1 H1.out
 have hh2 := iB2 H1.out
 obtain ⟨hw2a, hw2b⟩ := hw2
 obtain ⟨hh2a, hh2b⟩ := hh2
 obtain ⟨nc, hnc⟩ := eX (s.cells.length)
 obtain ⟨nh, hnh⟩ := eX (s.hist.length)
 have HNC := zz hnc
 have HNH := zz hnh
 rw [hnc, hnh]
 rw [hnc] at hcl
 rw [hnh] at hhl
 clear hnc hnh
 obtain ⟨T, hT⟩ := eX (s.title)
 rw [hT] at htl ⊢
 clear hT
 have HB1 : ∀ x, Hid (Below w.heap.size w (w.alloc x)) := fun x => zz (bA)
 go_enter Tryz.func24, Tryz.ntmps24
 try simp only [List.append_eq, List.cons_append, List.nil_append]
 go_wp2_with (first | (go_at_call 25; refine (Za7 _ _ _).mono ?_; rw [H1.out]; rintro e w' ⟨rfl, rfl⟩) | (go_at_call 31; refine (wI _ _ _ _).mono ?_; (first | rw [H2.out] | rw [H3.out] | rw [H4.out]); rintro e w' ⟨rfl, rfl⟩))
 go_ret
 exact ⟨rfl, bA⟩
theorem Zs7 (s : ScrI) (ac : Option Addr) (cc : Nat) (ah : Option Addr) (dh : Nat) (w : World) (ha : Sl Za0 2 w ac s.cells) (hb : Sl sE 1 w ah s.hist) (hcl : s.cells.length ≤ 1048576) (hhl : s.hist.length ≤ 1048576) (htl : s.title.size ≤ 1099511627776) (h1 : (inB s.w 2 24 && inB s.h 2 10) = true) (h2 : inB s.x 0 s.w = true) (h3 : inB s.y 0 (s.h - 1) = true) (h4 : inB s.look 0 127 = true) (hk : inB s.top 0 (s.h - 2) = false) :
 Calls Tryz.prog 24 #[.agg #[.int .i64 s.w, .int .i64 s.h, .int .i64 s.x, .int .i64 s.y, .int .i64 s.look, .int .i64 s.top, .int .i64 s.bot, .int .i64 s.sx, .int .i64 s.sy, .string s.title, .slice ac s.cells.length cc, .slice ah s.hist.length dh]] w fun e w' => e = .returned (.bool false) ∧ Below w.heap.size w w' := by
 have H1 := zz h1
 have H2 := zz h2
 have H3 := zz h3
 have H4 := zz h4
 have H5 := zz hk
 have HA := zz ha
 have HBB := zz hb
 clear ha hb hk h1 h2 h3 h4
 have hw2 := iB1 H1.out
 have hh2 := iB2 H1.out
 obtain ⟨hw2a, hw2b⟩ := hw2
 obtain ⟨hh2a, hh2b⟩ := hh2
 obtain ⟨nc, hnc⟩ := eX (s.cells.length)
 obtain ⟨nh, hnh⟩ := eX (s.hist.length)
 have HNC := zz hnc
 have HNH := zz hnh
 rw [hnc, hnh]
 rw [hnc] at hcl
 rw [hnh] at hhl
 clear hnc hnh
 obtain ⟨T, hT⟩ := eX (s.title)
 rw [hT] at htl ⊢
 clear hT
 have HB1 : ∀ x, Hid (Below w.heap.size w (w.alloc x)) := fun x => zz (bA)
 go_enter Tryz.func24, Tryz.ntmps24
 try simp only [List.append_eq, List.cons_append, List.nil_append]
 go_wp2_with (first | (go_at_call 25; refine (Za7 _ _ _).mono ?_; rw [H1.out]; rintro e w' ⟨rfl, rfl⟩) | (go_at_call 31; refine (wI _ _ _ _).mono ?_; (first | rw [H2.out] | rw [H3.out] | rw [H4.out] | rw [H5.out]); rintro e w' ⟨rfl, rfl⟩))
 go_ret
 exact ⟨rfl, bA⟩
theorem Zt3 (s : ScrI) (ac : Option Addr) (cc : Nat) (ah : Option Addr) (dh : Nat) (w : World) (ha : Sl Za0 2 w ac s.cells) (hb : Sl sE 1 w ah s.hist) (hcl : s.cells.length ≤ 1048576) (hhl : s.hist.length ≤ 1048576) (htl : s.title.size ≤ 1099511627776) (h1 : (inB s.w 2 24 && inB s.h 2 10) = true) (h2 : inB s.x 0 s.w = true) (h3 : inB s.y 0 (s.h - 1) = true) (h4 : inB s.look 0 127 = true) (h5 : inB s.top 0 (s.h - 2) = true) (hk : inB s.bot (s.top + 1) (s.h - 1) = false) :
 Calls Tryz.prog 24 #[.agg #[.int .i64 s.w, .int .i64 s.h, .int .i64 s.x, .int .i64 s.y, .int .i64 s.look, .int .i64 s.top, .int .i64 s.bot, .int .i64 s.sx, .int .i64 s.sy, .string s.title, .slice ac s.cells.length cc, .slice ah s.hist.length dh]] w fun e w' => e = .returned (.bool false) ∧ Below w.heap.size w w' := by
 have H1 := zz h1
 have H2 := zz h2
 have H3 := zz h3
 have H4 := zz h4
 have H5 := zz h5
 have H6 := zz hk
 have HA := zz ha
 have HBB := zz hb
 clear ha hb hk h1 h2 h3 h4 h5
 have hw2 := iB1 H1.out
 have hh2 := iB2 H1.out
 obtain ⟨hw2a, hw2b⟩ := hw2
 obtain ⟨hh2a, hh2b⟩ := hh2
 have ht2 := iB0 H5.out
 obtain ⟨ht2a, ht2b⟩ := ht2
 obtain ⟨nc, hnc⟩ := eX (s.cells.length)
 obtain ⟨nh, hnh⟩ := eX (s.hist.length)
 have HNC := zz hnc
 have HNH := zz hnh
 rw [hnc, hnh]
 rw [hnc] at hcl
 rw [hnh] at hhl
 clear hnc hnh
 obtain ⟨T, hT⟩ := eX (s.title)
 rw [hT] at htl ⊢
 clear hT
 have HB1 : ∀ x, Hid (Below w.heap.size w (w.alloc x)) := fun x => zz (bA)
 go_enter Tryz.func24, Tryz.ntmps24
 try simp only [List.append_eq, List.cons_append, List.nil_append]
 go_wp2_with (first | (go_at_call 25; refine (Za7 _ _ _).mono ?_; rw [H1.out]; rintro e w' ⟨rfl, rfl⟩) | (go_at_call 31; refine (wI _ _ _ _).mono ?_; (first | rw [H2.out] | rw [H3.out] | rw [H4.out] | rw [H5.out] | rw [H6.out]); rintro e w' ⟨rfl, rfl⟩))
 go_ret
 exact ⟨rfl, bA⟩
theorem Zt8 (s : ScrI) (ac : Option Addr) (cc : Nat) (ah : Option Addr) (dh : Nat) (w : World) (ha : Sl Za0 2 w ac s.cells) (hb : Sl sE 1 w ah s.hist) (hcl : s.cells.length ≤ 1048576) (hhl : s.hist.length ≤ 1048576) (htl : s.title.size ≤ 1099511627776) (h1 : (inB s.w 2 24 && inB s.h 2 10) = true) (h2 : inB s.x 0 s.w = true) (h3 : inB s.y 0 (s.h - 1) = true) (h4 : inB s.look 0 127 = true) (h5 : inB s.top 0 (s.h - 2) = true) (h6 : inB s.bot (s.top + 1) (s.h - 1) = true) (hk : inB s.sx 0 s.w = false) :
 Calls Tryz.prog 24 #[.agg #[.int .i64 s.w, .int .i64 s.h, .int .i64 s.x, .int .i64 s.y, .int .i64 s.look, .int .i64 s.top, .int .i64 s.bot, .int .i64 s.sx, .int .i64 s.sy, .string s.title, .slice ac s.cells.length cc, .slice ah s.hist.length dh]] w fun e w' => e = .returned (.bool false) ∧ Below w.heap.size w w' := by
 have H1 := zz h1
 have H2 := zz h2
 have H3 := zz h3
 have H4 := zz h4
 have H5 := zz h5
 have H6 := zz h6
 have H7 := zz hk
 have HA := zz ha
 have HBB := zz hb
 clear ha hb hk h1 h2 h3 h4 h5 h6
 have hw2 := iB1 H1.out
 have hh2 := iB2 H1.out
 obtain ⟨hw2a, hw2b⟩ := hw2
 obtain ⟨hh2a, hh2b⟩ := hh2
 have ht2 := iB0 H5.out
 obtain ⟨ht2a, ht2b⟩ := ht2
 obtain ⟨nc, hnc⟩ := eX (s.cells.length)
 obtain ⟨nh, hnh⟩ := eX (s.hist.length)
 have HNC := zz hnc
 have HNH := zz hnh
 rw [hnc, hnh]
 rw [hnc] at hcl
 rw [hnh] at hhl
 clear hnc hnh
 obtain ⟨T, hT⟩ := eX (s.title)
 rw [hT] at htl ⊢
 clear hT
 have HB1 : ∀ x, Hid (Below w.heap.size w (w.alloc x)) := fun x => zz (bA)
 go_enter Tryz.func24, Tryz.ntmps24
 try simp only [List.append_eq, List.cons_append, List.nil_append]
 go_wp2_with (first | (go_at_call 25; refine (Za7 _ _ _).mono ?_; rw [H1.out]; rintro e w' ⟨rfl, rfl⟩) | (go_at_call 31; refine (wI _ _ _ _).mono ?_; (first | rw [H2.out] | rw [H3.out] | rw [H4.out] | rw [H5.out] | rw [H6.out] | rw [H7.out]); rintro e w' ⟨rfl, rfl⟩))
 go_ret
 exact ⟨rfl, bA⟩
theorem Zq5 (s : ScrI) (ac : Option Addr) (cc : Nat) (ah : Option Addr) (dh : Nat) (w : World) (ha : Sl Za0 2 w ac s.cells) (hb : Sl sE 1 w ah s.hist) (hcl : s.cells.length ≤ 1048576) (hhl : s.hist.length ≤ 1048576) (htl : s.title.size ≤ 1099511627776) (h1 : (inB s.w 2 24 && inB s.h 2 10) = true) (h2 : inB s.x 0 s.w = true) (h3 : inB s.y 0 (s.h - 1) = true) (h4 : inB s.look 0 127 = true) (h5 : inB s.top 0 (s.h - 2) = true) (h6 : inB s.bot (s.top + 1) (s.h - 1) = true) (h7 : inB s.sx 0 s.w = true) (hk : inB s.sy 0 (s.h - 1) = false) :
 Calls Tryz.prog 24 #[.agg #[.int .i64 s.w, .int .i64 s.h, .int .i64 s.x, .int .i64 s.y, .int .i64 s.look, .int .i64 s.top, .int .i64 s.bot, .int .i64 s.sx, .int .i64 s.sy, .string s.title, .slice ac s.cells.length cc, .slice ah s.hist.length dh]] w fun e w' => e = .returned (.bool false) ∧ Below w.heap.size w w' := by
 have H1 := zz h1
 have H2 := zz h2
 have H3 := zz h3
 have H4 := zz h4
 have H5 := zz h5
 have H6 := zz h6
 have H7 := zz h7
 have H8 := zz hk
 have HA := zz ha
 have HBB := zz hb
 clear ha hb hk h1 h2 h3 h4 h5 h6 h7
 have hw2 := iB1 H1.out
 have hh2 := iB2 H1.out
 obtain ⟨hw2a, hw2b⟩ := hw2
 obtain ⟨hh2a, hh2b⟩ := hh2
 have ht2 := iB0 H5.out
 obtain ⟨ht2a, ht2b⟩ := ht2
 obtain ⟨nc, hnc⟩ := eX (s.cells.length)
 obtain ⟨nh, hnh⟩ := eX (s.hist.length)
 have HNC := zz hnc
 have HNH := zz hnh
 rw [hnc, hnh]
 rw [hnc] at hcl
 rw [hnh] at hhl
 clear hnc hnh
 obtain ⟨T, hT⟩ := eX (s.title)
 rw [hT] at htl ⊢
 clear hT
 have HB1 : ∀ x, Hid (Below w.heap.size w (w.alloc x)) := fun x => zz (bA)
 go_enter Tryz.func24, Tryz.ntmps24
 try simp only [List.append_eq, List.cons_append, List.nil_append]
 go_wp2_with (first | (go_at_call 25; refine (Za7 _ _ _).mono ?_; rw [H1.out]; rintro e w' ⟨rfl, rfl⟩) | (go_at_call 31; refine (wI _ _ _ _).mono ?_; (first | rw [H2.out] | rw [H3.out] | rw [H4.out] | rw [H5.out] | rw [H6.out] | rw [H7.out] | rw [H8.out]); rintro e w' ⟨rfl, rfl⟩))
 go_ret
 exact ⟨rfl, bA⟩
theorem Zu4 (s : ScrI) (ac : Option Addr) (cc : Nat) (ah : Option Addr) (dh : Nat) (w : World) (ha : Sl Za0 2 w ac s.cells) (hb : Sl sE 1 w ah s.hist) (hcl : s.cells.length ≤ 1048576) (hhl : s.hist.length ≤ 1048576) (htl : s.title.size ≤ 1099511627776) (h1 : (inB s.w 2 24 && inB s.h 2 10) = true) (h2 : inB s.x 0 s.w = true) (h3 : inB s.y 0 (s.h - 1) = true) (h4 : inB s.look 0 127 = true) (h5 : inB s.top 0 (s.h - 2) = true) (h6 : inB s.bot (s.top + 1) (s.h - 1) = true) (h7 : inB s.sx 0 s.w = true) (h8 : inB s.sy 0 (s.h - 1) = true) (hk : titB s.title = false) :
 Calls Tryz.prog 24 #[.agg #[.int .i64 s.w, .int .i64 s.h, .int .i64 s.x, .int .i64 s.y, .int .i64 s.look, .int .i64 s.top, .int .i64 s.bot, .int .i64 s.sx, .int .i64 s.sy, .string s.title, .slice ac s.cells.length cc, .slice ah s.hist.length dh]] w fun e w' => e = .returned (.bool false) ∧ Below w.heap.size w w' := by
 have H1 := zz h1
 have H2 := zz h2
 have H3 := zz h3
 have H4 := zz h4
 have H5 := zz h5
 have H6 := zz h6
 have H7 := zz h7
 have H8 := zz h8
 have H9 := zz hk
 have HA := zz ha
 have HBB := zz hb
 clear ha hb hk h1 h2 h3 h4 h5 h6 h7 h8
 have hw2 := iB1 H1.out
 have hh2 := iB2 H1.out
 obtain ⟨hw2a, hw2b⟩ := hw2
 obtain ⟨hh2a, hh2b⟩ := hh2
 have ht2 := iB0 H5.out
 obtain ⟨ht2a, ht2b⟩ := ht2
 obtain ⟨nc, hnc⟩ := eX (s.cells.length)
 obtain ⟨nh, hnh⟩ := eX (s.hist.length)
 have HNC := zz hnc
 have HNH := zz hnh
 rw [hnc, hnh]
 rw [hnc] at hcl
 rw [hnh] at hhl
 clear hnc hnh
 obtain ⟨T, hT⟩ := eX (s.title)
 rw [hT] at htl ⊢
 rw [hT] at H9
 clear hT
 have HB1 : ∀ x, Hid (Below w.heap.size w (w.alloc x)) := fun x => zz (bA)
 go_enter Tryz.func24, Tryz.ntmps24
 try simp only [List.append_eq, List.cons_append, List.nil_append]
 go_wp2_with (first | (go_at_call 25; refine (Za7 _ _ _).mono ?_; rw [H1.out]; rintro e w' ⟨rfl, rfl⟩) | (go_at_call 31; refine (wI _ _ _ _).mono ?_; (first | rw [H2.out] | rw [H3.out] | rw [H4.out] | rw [H5.out] | rw [H6.out] | rw [H7.out] | rw [H8.out]); rintro e w' ⟨rfl, rfl⟩) | (go_at_call 52; refine (Za9 T _ htl).mono ?_; rw [H9.out]; rintro e w' ⟨rfl, rfl⟩))
 go_ret
 exact ⟨rfl, bA⟩
theorem Zp4 (s : ScrI) (ac : Option Addr) (cc : Nat) (ah : Option Addr) (dh : Nat) (w : World) (ha : Sl Za0 2 w ac s.cells) (hb : Sl sE 1 w ah s.hist) (hcl : s.cells.length ≤ 1048576) (hhl : s.hist.length ≤ 1048576) (htl : s.title.size ≤ 1099511627776) (h1 : (inB s.w 2 24 && inB s.h 2 10) = true) (h2 : inB s.x 0 s.w = true) (h3 : inB s.y 0 (s.h - 1) = true) (h4 : inB s.look 0 127 = true) (h5 : inB s.top 0 (s.h - 2) = true) (h6 : inB s.bot (s.top + 1) (s.h - 1) = true) (h7 : inB s.sx 0 s.w = true) (h8 : inB s.sy 0 (s.h - 1) = true) (h9 : titB s.title = true) (hk : decide (s.hist.length ≤ 6) = false) :
 Calls Tryz.prog 24 #[.agg #[.int .i64 s.w, .int .i64 s.h, .int .i64 s.x, .int .i64 s.y, .int .i64 s.look, .int .i64 s.top, .int .i64 s.bot, .int .i64 s.sx, .int .i64 s.sy, .string s.title, .slice ac s.cells.length cc, .slice ah s.hist.length dh]] w fun e w' => e = .returned (.bool false) ∧ Below w.heap.size w w' := by
 have H1 := zz h1
 have H2 := zz h2
 have H3 := zz h3
 have H4 := zz h4
 have H5 := zz h5
 have H6 := zz h6
 have H7 := zz h7
 have H8 := zz h8
 have H9 := zz h9
 have H10 := zz hk
 have HA := zz ha
 have HBB := zz hb
 clear ha hb hk h1 h2 h3 h4 h5 h6 h7 h8 h9
 have hw2 := iB1 H1.out
 have hh2 := iB2 H1.out
 obtain ⟨hw2a, hw2b⟩ := hw2
 obtain ⟨hh2a, hh2b⟩ := hh2
 have ht2 := iB0 H5.out
 obtain ⟨ht2a, ht2b⟩ := ht2
 obtain ⟨nc, hnc⟩ := eX (s.cells.length)
 obtain ⟨nh, hnh⟩ := eX (s.hist.length)
 have HNC := zz hnc
 have HNH := zz hnh
 rw [hnc, hnh]
 rw [hnc] at hcl
 rw [hnh] at hhl
 clear hnc hnh
 obtain ⟨T, hT⟩ := eX (s.title)
 rw [hT] at htl ⊢
 rw [hT] at H9
 clear hT
 have h6 : ¬ (nh : Int) ≤ 6 := by have := H10.out; rw [HNH.out] at this; simp only [decide_eq_false_iff_not] at this; omega
 have HB1 : ∀ x, Hid (Below w.heap.size w (w.alloc x)) := fun x => zz (bA)
 go_enter Tryz.func24, Tryz.ntmps24
 try simp only [List.append_eq, List.cons_append, List.nil_append]
 go_wp2_with (first | (go_at_call 25; refine (Za7 _ _ _).mono ?_; rw [H1.out]; rintro e w' ⟨rfl, rfl⟩) | (go_at_call 31; refine (wI _ _ _ _).mono ?_; (first | rw [H2.out] | rw [H3.out] | rw [H4.out] | rw [H5.out] | rw [H6.out] | rw [H7.out] | rw [H8.out]); rintro e w' ⟨rfl, rfl⟩) | (go_at_call 52; refine (Za9 T _ htl).mono ?_; rw [H9.out]; rintro e w' ⟨rfl, rfl⟩))
 go_ret
 exact ⟨rfl, bA⟩
theorem Zo0 (s : ScrI) (ac : Option Addr) (cc : Nat) (ah : Option Addr) (dh : Nat) (w : World) (ha : Sl Za0 2 w ac s.cells) (hb : Sl sE 1 w ah s.hist) (hcl : s.cells.length ≤ 1048576) (hhl : s.hist.length ≤ 1048576) (htl : s.title.size ≤ 1099511627776) (h1 : (inB s.w 2 24 && inB s.h 2 10) = true) (h2 : inB s.x 0 s.w = true) (h3 : inB s.y 0 (s.h - 1) = true) (h4 : inB s.look 0 127 = true) (h5 : inB s.top 0 (s.h - 2) = true) (h6 : inB s.bot (s.top + 1) (s.h - 1) = true) (h7 : inB s.sx 0 s.w = true) (h8 : inB s.sy 0 (s.h - 1) = true) (h9 : titB s.title = true) (h10 : decide (s.hist.length ≤ 6) = true) (hk : decide ((s.cells.length : Int) = s.w * s.h) = false) :
 Calls Tryz.prog 24 #[.agg #[.int .i64 s.w, .int .i64 s.h, .int .i64 s.x, .int .i64 s.y, .int .i64 s.look, .int .i64 s.top, .int .i64 s.bot, .int .i64 s.sx, .int .i64 s.sy, .string s.title, .slice ac s.cells.length cc, .slice ah s.hist.length dh]] w fun e w' => e = .returned (.bool false) ∧ Below w.heap.size w w' := by
 have H1 := zz h1
 have H2 := zz h2
 have H3 := zz h3
 have H4 := zz h4
 have H5 := zz h5
 have H6 := zz h6
 have H7 := zz h7
 have H8 := zz h8
 have H9 := zz h9
 have H10 := zz h10
 have H11 := zz hk
 have HA := zz ha
 have HBB := zz hb
 clear ha hb hk h1 h2 h3 h4 h5 h6 h7 h8 h9 h10
 have hw2 := iB1 H1.out
 have hh2 := iB2 H1.out
 obtain ⟨hw2a, hw2b⟩ := hw2
 obtain ⟨hh2a, hh2b⟩ := hh2
 have ht2 := iB0 H5.out
 obtain ⟨ht2a, ht2b⟩ := ht2
 obtain ⟨pr, hpr⟩ := eX (s.w * s.h)
 have hpr0 : 0 ≤ pr := by rw [← hpr]; exact Int.mul_nonneg (by omega) (by omega)
 have hpr1 : pr ≤ 240 := by rw [← hpr]; exact Int.le_trans (Int.mul_le_mul_of_nonneg_right hw2b (by omega)) (by omega)
 obtain ⟨nc, hnc⟩ := eX (s.cells.length)
 obtain ⟨nh, hnh⟩ := eX (s.hist.length)
 have HNC := zz hnc
 have HNH := zz hnh
 rw [hnc, hnh]
 rw [hnc] at hcl
 rw [hnh] at hhl
 clear hnc hnh
 obtain ⟨T, hT⟩ := eX (s.title)
 rw [hT] at htl ⊢
 rw [hT] at H9
 clear hT
 have h6 : (nh : Int) ≤ 6 := by have := H10.out; rw [HNH.out] at this; simp only [decide_eq_true_eq] at this; omega
 have hq : ((nc : Int) == pr) = false := by have := H11.out; rw [HNC.out, hpr] at this; simp only [decide_eq_false_iff_not] at this; simp [this]
 have HB1 : ∀ x, Hid (Below w.heap.size w (w.alloc x)) := fun x => zz (bA)
 go_enter Tryz.func24, Tryz.ntmps24
 try simp only [List.append_eq, List.cons_append, List.nil_append]
 go_wp2_with (first | (go_at_call 25; refine (Za7 _ _ _).mono ?_; rw [H1.out]; rintro e w' ⟨rfl, rfl⟩) | (go_at_call 31; refine (wI _ _ _ _).mono ?_; (first | rw [H2.out] | rw [H3.out] | rw [H4.out] | rw [H5.out] | rw [H6.out] | rw [H7.out] | rw [H8.out]); rintro e w' ⟨rfl, rfl⟩) | (go_at_call 52; refine (Za9 T _ htl).mono ?_; rw [H9.out]; rintro e w' ⟨rfl, rfl⟩))
 go_ret
 exact ⟨rfl, bA⟩
theorem Zo6 (s : ScrI) (ac : Option Addr) (cc : Nat) (ah : Option Addr) (dh : Nat) (w : World) (ha : Sl Za0 2 w ac s.cells) (hb : Sl sE 1 w ah s.hist) (hcl : s.cells.length ≤ 1048576) (hhl : s.hist.length ≤ 1048576) (htl : s.title.size ≤ 1099511627776) (h1 : (inB s.w 2 24 && inB s.h 2 10) = true) (h2 : inB s.x 0 s.w = true) (h3 : inB s.y 0 (s.h - 1) = true) (h4 : inB s.look 0 127 = true) (h5 : inB s.top 0 (s.h - 2) = true) (h6 : inB s.bot (s.top + 1) (s.h - 1) = true) (h7 : inB s.sx 0 s.w = true) (h8 : inB s.sy 0 (s.h - 1) = true) (h9 : titB s.title = true) (h10 : decide (s.hist.length ≤ 6) = true) (h11 : decide ((s.cells.length : Int) = s.w * s.h) = true) (hk : (!s.hist.any bigH) = false) :
 Calls Tryz.prog 24 #[.agg #[.int .i64 s.w, .int .i64 s.h, .int .i64 s.x, .int .i64 s.y, .int .i64 s.look, .int .i64 s.top, .int .i64 s.bot, .int .i64 s.sx, .int .i64 s.sy, .string s.title, .slice ac s.cells.length cc, .slice ah s.hist.length dh]] w fun e w' => e = .returned (.bool false) ∧ Below w.heap.size w w' := by
 have H1 := zz h1
 have H2 := zz h2
 have H3 := zz h3
 have H4 := zz h4
 have H5 := zz h5
 have H6 := zz h6
 have H7 := zz h7
 have H8 := zz h8
 have H9 := zz h9
 have H10 := zz h10
 have H11 := zz h11
 have H12 := zz hk
 have HA := zz ha
 have HBB := zz hb
 clear ha hb hk h1 h2 h3 h4 h5 h6 h7 h8 h9 h10 h11
 have hw2 := iB1 H1.out
 have hh2 := iB2 H1.out
 obtain ⟨hw2a, hw2b⟩ := hw2
 obtain ⟨hh2a, hh2b⟩ := hh2
 have ht2 := iB0 H5.out
 obtain ⟨ht2a, ht2b⟩ := ht2
 obtain ⟨pr, hpr⟩ := eX (s.w * s.h)
 have hpr0 : 0 ≤ pr := by rw [← hpr]; exact Int.mul_nonneg (by omega) (by omega)
 have hpr1 : pr ≤ 240 := by rw [← hpr]; exact Int.le_trans (Int.mul_le_mul_of_nonneg_right hw2b (by omega)) (by omega)
 have HCH : Hid (∀ W, Below w.heap.size w W → Calls Tryz.prog 53 #[.slice ah s.hist.length dh, .func (.func 54) #[] #[]] W fun e w' => e = .returned (.bool true) ∧ W = w') := zz (fun W hB => by
  have := H12.out
  simp only [Bool.not_eq_true', Bool.not_eq_false'] at this
  rw [← this]
  exact Za3 ah dh s.hist W (HBB.out.keep hB) (by omega) (fun _ _ => trivial))
 obtain ⟨nc, hnc⟩ := eX (s.cells.length)
 obtain ⟨nh, hnh⟩ := eX (s.hist.length)
 have HNC := zz hnc
 have HNH := zz hnh
 rw [hnh] at HCH
 rw [hnc, hnh]
 rw [hnc] at hcl
 rw [hnh] at hhl
 clear hnc hnh
 obtain ⟨T, hT⟩ := eX (s.title)
 rw [hT] at htl ⊢
 rw [hT] at H9
 clear hT
 have h6 : (nh : Int) ≤ 6 := by have := H10.out; rw [HNH.out] at this; simp only [decide_eq_true_eq] at this; omega
 have hq : ((nc : Int) == pr) = true := by have := H11.out; rw [HNC.out, hpr] at this; simp only [decide_eq_true_eq] at this; simp [this]
 have HB1 : ∀ x, Hid (Below w.heap.size w (w.alloc x)) := fun x => zz (bA)
 go_enter Tryz.func24, Tryz.ntmps24
 try simp only [List.append_eq, List.cons_append, List.nil_append]
 go_wp2_with (first | (go_at_call 25; refine (Za7 _ _ _).mono ?_; rw [H1.out]; rintro e w' ⟨rfl, rfl⟩) | (go_at_call 31; refine (wI _ _ _ _).mono ?_; (first | rw [H2.out] | rw [H3.out] | rw [H4.out] | rw [H5.out] | rw [H6.out] | rw [H7.out] | rw [H8.out]); rintro e w' ⟨rfl, rfl⟩) | (go_at_call 52; refine (Za9 T _ htl).mono ?_; rw [H9.out]; rintro e w' ⟨rfl, rfl⟩) | (go_at_call 53; refine (HCH.out _ (HB1 _).out).mono ?_; rintro e w' ⟨rfl, rfl⟩))
 go_ret
 exact ⟨rfl, bA⟩
theorem Zp7 (s : ScrI) (ac : Option Addr) (cc : Nat) (ah : Option Addr) (dh : Nat) (w : World) (ha : Sl Za0 2 w ac s.cells) (hb : Sl sE 1 w ah s.hist) (hcl : s.cells.length ≤ 1048576) (hhl : s.hist.length ≤ 1048576) (htl : s.title.size ≤ 1099511627776) (h1 : (inB s.w 2 24 && inB s.h 2 10) = true) (h2 : inB s.x 0 s.w = true) (h3 : inB s.y 0 (s.h - 1) = true) (h4 : inB s.look 0 127 = true) (h5 : inB s.top 0 (s.h - 2) = true) (h6 : inB s.bot (s.top + 1) (s.h - 1) = true) (h7 : inB s.sx 0 s.w = true) (h8 : inB s.sy 0 (s.h - 1) = true) (h9 : titB s.title = true) (h10 : decide (s.hist.length ≤ 6) = true) (h11 : decide ((s.cells.length : Int) = s.w * s.h) = true) (h12 : (!s.hist.any bigH) = true) (hk : (!s.cells.any ncB) = false) :
 Calls Tryz.prog 24 #[.agg #[.int .i64 s.w, .int .i64 s.h, .int .i64 s.x, .int .i64 s.y, .int .i64 s.look, .int .i64 s.top, .int .i64 s.bot, .int .i64 s.sx, .int .i64 s.sy, .string s.title, .slice ac s.cells.length cc, .slice ah s.hist.length dh]] w fun e w' => e = .returned (.bool false) ∧ Below w.heap.size w w' := by
 have H1 := zz h1
 have H2 := zz h2
 have H3 := zz h3
 have H4 := zz h4
 have H5 := zz h5
 have H6 := zz h6
 have H7 := zz h7
 have H8 := zz h8
 have H9 := zz h9
 have H10 := zz h10
 have H11 := zz h11
 have H12 := zz h12
 have H13 := zz hk
 have HA := zz ha
 have HBB := zz hb
 clear ha hb hk h1 h2 h3 h4 h5 h6 h7 h8 h9 h10 h11 h12
 have hw2 := iB1 H1.out
 have hh2 := iB2 H1.out
 obtain ⟨hw2a, hw2b⟩ := hw2
 obtain ⟨hh2a, hh2b⟩ := hh2
 have ht2 := iB0 H5.out
 obtain ⟨ht2a, ht2b⟩ := ht2
 obtain ⟨pr, hpr⟩ := eX (s.w * s.h)
 have hpr0 : 0 ≤ pr := by rw [← hpr]; exact Int.mul_nonneg (by omega) (by omega)
 have hpr1 : pr ≤ 240 := by rw [← hpr]; exact Int.le_trans (Int.mul_le_mul_of_nonneg_right hw2b (by omega)) (by omega)
 have HCH : Hid (∀ W, Below w.heap.size w W → Calls Tryz.prog 53 #[.slice ah s.hist.length dh, .func (.func 54) #[] #[]] W fun e w' => e = .returned (.bool false) ∧ W = w') := zz (fun W hB => by
  have := H12.out
  simp only [Bool.not_eq_true', Bool.not_eq_false'] at this
  rw [← this]
  exact Za3 ah dh s.hist W (HBB.out.keep hB) (by omega) (fun _ _ => trivial))
 have HCC : Hid (∀ W, Below w.heap.size w W → Calls Tryz.prog 55 #[.slice ac s.cells.length cc, .func (.func 56) #[] #[]] W fun e w' => e = .returned (.bool true) ∧ Below W.heap.size W w') := zz (fun W hB => by
  have := H13.out
  simp only [Bool.not_eq_true', Bool.not_eq_false'] at this
  rw [← this]
  exact Zi7 ac cc s.cells W (HA.out.keep hB) (by omega))
 obtain ⟨nc, hnc⟩ := eX (s.cells.length)
 obtain ⟨nh, hnh⟩ := eX (s.hist.length)
 have HNC := zz hnc
 have HNH := zz hnh
 rw [hnh] at HCH
 rw [hnc] at HCC
 rw [hnc, hnh]
 rw [hnc] at hcl
 rw [hnh] at hhl
 clear hnc hnh
 obtain ⟨T, hT⟩ := eX (s.title)
 rw [hT] at htl ⊢
 rw [hT] at H9
 clear hT
 have h6 : (nh : Int) ≤ 6 := by have := H10.out; rw [HNH.out] at this; simp only [decide_eq_true_eq] at this; omega
 have hq : ((nc : Int) == pr) = true := by have := H11.out; rw [HNC.out, hpr] at this; simp only [decide_eq_true_eq] at this; simp [this]
 have HB1 : ∀ x, Hid (Below w.heap.size w (w.alloc x)) := fun x => zz (bA)
 go_enter Tryz.func24, Tryz.ntmps24
 try simp only [List.append_eq, List.cons_append, List.nil_append]
 go_wp2_with (first | (go_at_call 25; refine (Za7 _ _ _).mono ?_; rw [H1.out]; rintro e w' ⟨rfl, rfl⟩) | (go_at_call 31; refine (wI _ _ _ _).mono ?_; (first | rw [H2.out] | rw [H3.out] | rw [H4.out] | rw [H5.out] | rw [H6.out] | rw [H7.out] | rw [H8.out]); rintro e w' ⟨rfl, rfl⟩) | (go_at_call 52; refine (Za9 T _ htl).mono ?_; rw [H9.out]; rintro e w' ⟨rfl, rfl⟩) | (go_at_call 53; refine (HCH.out _ (HB1 _).out).mono ?_; rintro e w' ⟨rfl, rfl⟩) | (go_at_call 55; refine (HCC.out _ (HB1 _).out).mono ?_; rintro e wz ⟨rfl, hbz⟩; have HBZ := zz ((HB1 _).out.trans (hbz.mono (HB1 _).out.size)); clear hbz))
 go_ret
 exact ⟨rfl, HBZ.out⟩
theorem Zu3 (s : ScrI) (ac : Option Addr) (cc : Nat) (ah : Option Addr) (dh : Nat) (w : World) (ha : Sl Za0 2 w ac s.cells) (hb : Sl sE 1 w ah s.hist) (hcl : s.cells.length ≤ 1048576) (hhl : s.hist.length ≤ 1048576) (htl : s.title.size ≤ 1099511627776) (h1 : (inB s.w 2 24 && inB s.h 2 10) = true) (h2 : inB s.x 0 s.w = true) (h3 : inB s.y 0 (s.h - 1) = true) (h4 : inB s.look 0 127 = true) (h5 : inB s.top 0 (s.h - 2) = true) (h6 : inB s.bot (s.top + 1) (s.h - 1) = true) (h7 : inB s.sx 0 s.w = true) (h8 : inB s.sy 0 (s.h - 1) = true) (h9 : titB s.title = true) (h10 : decide (s.hist.length ≤ 6) = true) (h11 : decide ((s.cells.length : Int) = s.w * s.h) = true) (h12 : (!s.hist.any bigH) = true) (h13 : (!s.cells.any ncB) = true) :
 Calls Tryz.prog 24 #[.agg #[.int .i64 s.w, .int .i64 s.h, .int .i64 s.x, .int .i64 s.y, .int .i64 s.look, .int .i64 s.top, .int .i64 s.bot, .int .i64 s.sx, .int .i64 s.sy, .string s.title, .slice ac s.cells.length cc, .slice ah s.hist.length dh]] w fun e w' => e = .returned (.bool true) ∧ Below w.heap.size w w' := by
 have H1 := zz h1
 have H2 := zz h2
 have H3 := zz h3
 have H4 := zz h4
 have H5 := zz h5
 have H6 := zz h6
 have H7 := zz h7
 have H8 := zz h8
 have H9 := zz h9
 have H10 := zz h10
 have H11 := zz h11
 have H12 := zz h12
 have H13 := zz h13
 have HA := zz ha
 have HBB := zz hb
 clear ha hb h1 h2 h3 h4 h5 h6 h7 h8 h9 h10 h11 h12 h13
 have hw2 := iB1 H1.out
 have hh2 := iB2 H1.out
 obtain ⟨hw2a, hw2b⟩ := hw2
 obtain ⟨hh2a, hh2b⟩ := hh2
 have ht2 := iB0 H5.out
 obtain ⟨ht2a, ht2b⟩ := ht2
 obtain ⟨pr, hpr⟩ := eX (s.w * s.h)
 have hpr0 : 0 ≤ pr := by rw [← hpr]; exact Int.mul_nonneg (by omega) (by omega)
 have hpr1 : pr ≤ 240 := by rw [← hpr]; exact Int.le_trans (Int.mul_le_mul_of_nonneg_right hw2b (by omega)) (by omega)
 have HCH : Hid (∀ W, Below w.heap.size w W → Calls Tryz.prog 53 #[.slice ah s.hist.length dh, .func (.func 54) #[] #[]] W fun e w' => e = .returned (.bool false) ∧ W = w') := zz (fun W hB => by
  have := H12.out
  simp only [Bool.not_eq_true', Bool.not_eq_false'] at this
  rw [← this]
  exact Za3 ah dh s.hist W (HBB.out.keep hB) (by omega) (fun _ _ => trivial))
 have HCC : Hid (∀ W, Below w.heap.size w W → Calls Tryz.prog 55 #[.slice ac s.cells.length cc, .func (.func 56) #[] #[]] W fun e w' => e = .returned (.bool false) ∧ Below W.heap.size W w') := zz (fun W hB => by
  have := H13.out
  simp only [Bool.not_eq_true', Bool.not_eq_false'] at this
  rw [← this]
  exact Zi7 ac cc s.cells W (HA.out.keep hB) (by omega))
 obtain ⟨nc, hnc⟩ := eX (s.cells.length)
 obtain ⟨nh, hnh⟩ := eX (s.hist.length)
 have HNC := zz hnc
 have HNH := zz hnh
 rw [hnh] at HCH
 rw [hnc] at HCC
 rw [hnc, hnh]
 rw [hnc] at hcl
 rw [hnh] at hhl
 clear hnc hnh
 obtain ⟨T, hT⟩ := eX (s.title)
 rw [hT] at htl ⊢
 rw [hT] at H9
 clear hT
 have h6 : (nh : Int) ≤ 6 := by have := H10.out; rw [HNH.out] at this; simp only [decide_eq_true_eq] at this; omega
 have hq : ((nc : Int) == pr) = true := by have := H11.out; rw [HNC.out, hpr] at this; simp only [decide_eq_true_eq] at this; simp [this]
 have HB1 : ∀ x, Hid (Below w.heap.size w (w.alloc x)) := fun x => zz (bA)
 go_enter Tryz.func24, Tryz.ntmps24
 try simp only [List.append_eq, List.cons_append, List.nil_append]
 go_wp2_with (first | (go_at_call 25; refine (Za7 _ _ _).mono ?_; rw [H1.out]; rintro e w' ⟨rfl, rfl⟩) | (go_at_call 31; refine (wI _ _ _ _).mono ?_; (first | rw [H2.out] | rw [H3.out] | rw [H4.out] | rw [H5.out] | rw [H6.out] | rw [H7.out] | rw [H8.out]); rintro e w' ⟨rfl, rfl⟩) | (go_at_call 52; refine (Za9 T _ htl).mono ?_; rw [H9.out]; rintro e w' ⟨rfl, rfl⟩) | (go_at_call 53; refine (HCH.out _ (HB1 _).out).mono ?_; rintro e w' ⟨rfl, rfl⟩) | (go_at_call 55; refine (HCC.out _ (HB1 _).out).mono ?_; rintro e wz ⟨rfl, hbz⟩; have HBZ := zz ((HB1 _).out.trans (hbz.mono (HB1 _).out.size)); clear hbz))
 go_ret
 exact ⟨rfl, HBZ.out⟩
end
section
theorem Yf8 (s : ScrI) : scrB s = ((inB s.w 2 24 && inB s.h 2 10) && inB s.x 0 s.w && inB s.y 0 (s.h - 1) && inB s.look 0 127 && inB s.top 0 (s.h - 2) && inB s.bot (s.top + 1) (s.h - 1) && inB s.sx 0 s.w && inB s.sy 0 (s.h - 1) && titB s.title && decide (s.hist.length ≤ 6) && decide ((s.cells.length : Int) = s.w * s.h) && (!s.hist.any bigH) && (!s.cells.any ncB)) := by
 have e1 : (!s.hist.any bigH) = s.hist.all fun t => decide (t.size ≤ 96) := by
  rw [List.not_any_eq_all_not]
  congr 1
  funext t
  unfold bigH
  rw [← decide_not]
  simp
 have e2 : (!s.cells.any ncB) = s.cells.all celB := by
  rw [List.not_any_eq_all_not]
  congr 1
  funext c
  unfold ncB
  simp
 rw [e1, e2]
 unfold scrB scrH titB tiB
 rw [Bool.eq_iff_iff]
 simp only [Bool.and_eq_true]
 constructor
 ·rintro ⟨⟨⟨⟨⟨⟨⟨⟨⟨⟨⟨⟨⟨a1, b⟩, c⟩, d⟩, e⟩, f⟩, g⟩, h⟩, j⟩, k⟩, l⟩, m⟩, n⟩, o⟩
  exact ⟨⟨⟨⟨⟨⟨⟨⟨⟨⟨⟨⟨a1, b⟩, c⟩, d⟩, e⟩, f⟩, g⟩, h⟩, j, m⟩, l⟩, k⟩, o⟩, n⟩
 ·rintro ⟨⟨⟨⟨⟨⟨⟨⟨⟨⟨⟨⟨a1, b⟩, c⟩, d⟩, e⟩, f⟩, g⟩, h⟩, j, m⟩, l⟩, k⟩, o⟩, n⟩
  exact ⟨⟨⟨⟨⟨⟨⟨⟨⟨⟨⟨⟨⟨a1, b⟩, c⟩, d⟩, e⟩, f⟩, g⟩, h⟩, j⟩, k⟩, l⟩, m⟩, n⟩, o⟩
theorem Ya4 (s : ScrI) (ac : Option Addr) (cc : Nat) (ah : Option Addr) (dh : Nat) (w : World) (ha : Sl Za0 2 w ac s.cells) (hb : Sl sE 1 w ah s.hist) (hcl : s.cells.length ≤ 1048576) (hhl : s.hist.length ≤ 1048576) (htl : s.title.size ≤ 1099511627776) :
 Calls Tryz.prog 24 #[.agg #[.int .i64 s.w, .int .i64 s.h, .int .i64 s.x, .int .i64 s.y, .int .i64 s.look, .int .i64 s.top, .int .i64 s.bot, .int .i64 s.sx, .int .i64 s.sy, .string s.title, .slice ac s.cells.length cc, .slice ah s.hist.length dh]] w fun e w' => e = .returned (.bool (scrB s)) ∧ Below w.heap.size w w' := by
 have E := Yf8 s
 cases h1 : (inB s.w 2 24 && inB s.h 2 10)
 ·have e : scrB s = false := by rw [E, h1]; simp
  rw [e]
  exact Zr4 s ac cc ah dh w ha hb hcl hhl htl h1
 cases h2 : inB s.x 0 s.w
 ·have e : scrB s = false := by rw [E, h1, h2]; simp
  rw [e]
  exact Zq3 s ac cc ah dh w ha hb hcl hhl htl h1 h2
 cases h3 : inB s.y 0 (s.h - 1)
 ·have e : scrB s = false := by rw [E, h1, h2, h3]; simp
  rw [e]
  exact Zr7 s ac cc ah dh w ha hb hcl hhl htl h1 h2 h3
 cases h4 : inB s.look 0 127
 ·have e : scrB s = false := by rw [E, h1, h2, h3, h4]; simp
  rw [e]
  exact Zr6 s ac cc ah dh w ha hb hcl hhl htl h1 h2 h3 h4
 cases h5 : inB s.top 0 (s.h - 2)
 ·have e : scrB s = false := by rw [E, h1, h2, h3, h4, h5]; simp
  rw [e]
  exact Zs7 s ac cc ah dh w ha hb hcl hhl htl h1 h2 h3 h4 h5
 cases h6 : inB s.bot (s.top + 1) (s.h - 1)
 ·have e : scrB s = false := by rw [E, h1, h2, h3, h4, h5, h6]; simp
  rw [e]
  exact Zt3 s ac cc ah dh w ha hb hcl hhl htl h1 h2 h3 h4 h5 h6
 cases h7 : inB s.sx 0 s.w
 ·have e : scrB s = false := by rw [E, h1, h2, h3, h4, h5, h6, h7]; simp
  rw [e]
  exact Zt8 s ac cc ah dh w ha hb hcl hhl htl h1 h2 h3 h4 h5 h6 h7
 cases h8 : inB s.sy 0 (s.h - 1)
 ·have e : scrB s = false := by rw [E, h1, h2, h3, h4, h5, h6, h7, h8]; simp
  rw [e]
  exact Zq5 s ac cc ah dh w ha hb hcl hhl htl h1 h2 h3 h4 h5 h6 h7 h8
 cases h9 : titB s.title
 ·have e : scrB s = false := by rw [E, h1, h2, h3, h4, h5, h6, h7, h8, h9]; simp
  rw [e]
  exact Zu4 s ac cc ah dh w ha hb hcl hhl htl h1 h2 h3 h4 h5 h6 h7 h8 h9
 cases h10 : decide (s.hist.length ≤ 6)
 ·have e : scrB s = false := by rw [E, h1, h2, h3, h4, h5, h6, h7, h8, h9, h10]; simp
  rw [e]
  exact Zp4 s ac cc ah dh w ha hb hcl hhl htl h1 h2 h3 h4 h5 h6 h7 h8 h9 h10
 cases h11 : decide ((s.cells.length : Int) = s.w * s.h)
 ·have e : scrB s = false := by rw [E, h1, h2, h3, h4, h5, h6, h7, h8, h9, h10, h11]; simp
  rw [e]
  exact Zo0 s ac cc ah dh w ha hb hcl hhl htl h1 h2 h3 h4 h5 h6 h7 h8 h9 h10 h11
 cases h12 : (!s.hist.any bigH)
 ·have e : scrB s = false := by rw [E, h1, h2, h3, h4, h5, h6, h7, h8, h9, h10, h11, h12]; simp
  rw [e]
  exact Zo6 s ac cc ah dh w ha hb hcl hhl htl h1 h2 h3 h4 h5 h6 h7 h8 h9 h10 h11 h12
 cases h13 : (!s.cells.any ncB)
 ·have e : scrB s = false := by rw [E, h1, h2, h3, h4, h5, h6, h7, h8, h9, h10, h11, h12, h13]; simp
  rw [e]
  exact Zp7 s ac cc ah dh w ha hb hcl hhl htl h1 h2 h3 h4 h5 h6 h7 h8 h9 h10 h11 h12 h13
 have e : scrB s = true := by rw [E, h1, h2, h3, h4, h5, h6, h7, h8, h9, h10, h11, h12, h13]; simp
 rw [e]
 exact Zu3 s ac cc ah dh w ha hb hcl hhl htl h1 h2 h3 h4 h5 h6 h7 h8 h9 h10 h11 h12 h13
end
section
theorem convT {a : Option Addr} {ca : Nat} {xs : List UInt8} {w : World} (ha : Sl yE 1 w a xs) : (convert 22 9 (.slice a xs.length ca)).run Tryz.prog w = .ok (.string (sO_ xs)) w := convS ha
theorem Yb8 (s : Scr) (HO : sK s) (ac : Option Addr) (cc : Nat) (ah : Option Addr) (dh : Nat) (w : World) (h : sS s ac ah w) :
 Calls Tryz.prog 62 #[scrV s ac cc ah dh] w fun e w' => e = .returned (.string (sO_ (Zb4 s.i))) ∧ Below w.heap.size w w' := by
 obtain ⟨ha, hb⟩ := id h
 have HRS := zz h
 unfold scrV
 have HA := zz ha
 have HBB := zz hb
 have HOK := zz HO
 have HBS := zz ((Zh2 _).1 HO.b)
 have HN9 : Hid (∀ x ∈ nineL s.i, -1 ≤ x ∧ x ≤ 1099511627775) := zz (fun x hx => by have := HBS.out.nine x hx; omega)
 obtain ⟨NL, hNL⟩ := eX (numL (nineL s.i))
 obtain ⟨HL, hHL⟩ := eX (fldL s.hist)
 obtain ⟨N9, hN9⟩ := eX (sO_ NL)
 obtain ⟨HH, hHH⟩ := eX (sO_ HL)
 have hnl : NL.length ≤ 27 := by rw [← hNL, Zh0]; simp [nineL]
 have hhl : HL.length ≤ 600 := by rw [← hHL]; have := HBS.out.histLen; simp only [Scr.i] at this; omega
 have HNU : Hid (∀ W a, Sl iE 1 W a (nineL s.i) → Calls Tryz.prog 96 #[.slice a 9 9] W (Ze0 yE 5 1 W NL)) := zz (fun W a h => by rw [← hNL]; exact Zs0 a 9 (nineL s.i) W h (by simp [nineL]) HN9.out)
 have HFI : Hid (∀ W, Below w.heap.size w W → Calls Tryz.prog 97 #[.slice ah s.hist.length dh] W (Ze0 yE 5 1 W HL)) := zz (fun W h => by
  rw [← hHL]
  exact Zj8 ah dh s.hist W (HBB.out.keep h) (by have := HOK.out.hn; omega) (fun r hr => by have := HOK.out.hs r hr; omega))
 have HFS : Hid (∀ r ∈ N9 :: s.title :: HH :: rowsL s.i s.h, r.size ≤ 600) := zz (by
  rw [← hN9, ← hHH, ← hNL, ← hHL]
  exact HBS.out.fs)
 have HX : Hid (Zb4 s.i = fldL (N9 :: s.title :: HH :: rowsL s.i s.h)) := zz (by rw [← hN9, ← hHH, ← hNL, ← hHL]; rfl)
 have HNS := zz hN9
 have HHS := zz hHH
 rw [HX.out]
 clear ha hb HO hN9 hHH hNL hHL h
 obtain ⟨i0, hi, hz0, hz1, hz2⟩ := info_parts Tryz.infoString
 go_enter Tryz.func62, Tryz.ntmps62
 go_upto_region 1 with fail
 obtain ⟨x0, hx0⟩ := eX (w.alloc (.cells #[.int .i64 s.w, .int .i64 s.h, .int .i64 s.x, .int .i64 s.y, .int .i64 s.look, .int .i64 s.top, .int .i64 s.bot, .int .i64 s.sx, .int .i64 s.sy, .string s.title, .slice ac s.cells.length cc, .slice ah s.hist.length dh] 26))
 have HB0 : Hid (Below w.heap.size w x0) := zz (by rw [← hx0]; exact bA)
 have k_0 : x0.cell? ⟨w.heap.size, 0, none⟩ = some (.int .i64 s.w) := by rw [← hx0]; simp [go_sem]
 have k_1 : x0.cell? ⟨w.heap.size, 1, none⟩ = some (.int .i64 s.h) := by rw [← hx0]; simp [go_sem]
 have k_2 : x0.cell? ⟨w.heap.size, 2, none⟩ = some (.int .i64 s.x) := by rw [← hx0]; simp [go_sem]
 have k_3 : x0.cell? ⟨w.heap.size, 3, none⟩ = some (.int .i64 s.y) := by rw [← hx0]; simp [go_sem]
 have k_4 : x0.cell? ⟨w.heap.size, 4, none⟩ = some (.int .i64 s.look) := by rw [← hx0]; simp [go_sem]
 have k_5 : x0.cell? ⟨w.heap.size, 5, none⟩ = some (.int .i64 s.top) := by rw [← hx0]; simp [go_sem]
 have k_6 : x0.cell? ⟨w.heap.size, 6, none⟩ = some (.int .i64 s.bot) := by rw [← hx0]; simp [go_sem]
 have k_7 : x0.cell? ⟨w.heap.size, 7, none⟩ = some (.int .i64 s.sx) := by rw [← hx0]; simp [go_sem]
 have k_8 : x0.cell? ⟨w.heap.size, 8, none⟩ = some (.int .i64 s.sy) := by rw [← hx0]; simp [go_sem]
 have k_9 : x0.cell? ⟨w.heap.size, 9, none⟩ = some (.string s.title) := by rw [← hx0]; simp [go_sem]
 have k_10 : x0.cell? ⟨w.heap.size, 10, none⟩ = some (.slice ac s.cells.length cc) := by rw [← hx0]; simp [go_sem]
 have k_11 : x0.cell? ⟨w.heap.size, 11, none⟩ = some (.slice ah s.hist.length dh) := by rw [← hx0]; simp [go_sem]
 have k_l : w.heap.size < x0.heap.size := by rw [← hx0]; simp
 have HXS : Hid (x0.heap.size = w.heap.size + 1) := zz (by rw [← hx0]; simp)
 rw [hx0]
 clear hx0
 have HSB : Hid (∀ x, Below x0.heap.size x0 x → x.cell? ⟨w.heap.size, 0, none⟩ = some (.int .i64 s.w) ∧ x.cell? ⟨w.heap.size, 1, none⟩ = some (.int .i64 s.h) ∧ x.cell? ⟨w.heap.size, 2, none⟩ = some (.int .i64 s.x) ∧ x.cell? ⟨w.heap.size, 3, none⟩ = some (.int .i64 s.y) ∧ x.cell? ⟨w.heap.size, 4, none⟩ = some (.int .i64 s.look) ∧ x.cell? ⟨w.heap.size, 5, none⟩ = some (.int .i64 s.top) ∧ x.cell? ⟨w.heap.size, 6, none⟩ = some (.int .i64 s.bot) ∧ x.cell? ⟨w.heap.size, 7, none⟩ = some (.int .i64 s.sx) ∧ x.cell? ⟨w.heap.size, 8, none⟩ = some (.int .i64 s.sy) ∧ x.cell? ⟨w.heap.size, 9, none⟩ = some (.string s.title) ∧ x.cell? ⟨w.heap.size, 11, none⟩ = some (.slice ah s.hist.length dh)) := zz (fun x h => ⟨(h.cell (p := ⟨w.heap.size, 0, none⟩) k_l).trans k_0, (h.cell (p := ⟨w.heap.size, 1, none⟩) k_l).trans k_1, (h.cell (p := ⟨w.heap.size, 2, none⟩) k_l).trans k_2, (h.cell (p := ⟨w.heap.size, 3, none⟩) k_l).trans k_3, (h.cell (p := ⟨w.heap.size, 4, none⟩) k_l).trans k_4, (h.cell (p := ⟨w.heap.size, 5, none⟩) k_l).trans k_5, (h.cell (p := ⟨w.heap.size, 6, none⟩) k_l).trans k_6, (h.cell (p := ⟨w.heap.size, 7, none⟩) k_l).trans k_7, (h.cell (p := ⟨w.heap.size, 8, none⟩) k_l).trans k_8, (h.cell (p := ⟨w.heap.size, 9, none⟩) k_l).trans k_9, (h.cell (p := ⟨w.heap.size, 11, none⟩) k_l).trans k_11⟩)
 have hS0 := HSB.out x0 (Below.refl _ _)
 have HSX : Hid (∀ x, Below x0.heap.size x0 x → x.cell? ⟨w.heap.size, 0, none⟩ = some (.int .i64 s.w) ∧ x.cell? ⟨w.heap.size, 1, none⟩ = some (.int .i64 s.h) ∧ x.cell? ⟨w.heap.size, 2, none⟩ = some (.int .i64 s.x) ∧ x.cell? ⟨w.heap.size, 3, none⟩ = some (.int .i64 s.y) ∧ x.cell? ⟨w.heap.size, 4, none⟩ = some (.int .i64 s.look) ∧ x.cell? ⟨w.heap.size, 5, none⟩ = some (.int .i64 s.top) ∧ x.cell? ⟨w.heap.size, 6, none⟩ = some (.int .i64 s.bot) ∧ x.cell? ⟨w.heap.size, 7, none⟩ = some (.int .i64 s.sx) ∧ x.cell? ⟨w.heap.size, 8, none⟩ = some (.int .i64 s.sy) ∧ x.cell? ⟨w.heap.size, 9, none⟩ = some (.string s.title) ∧ x.cell? ⟨w.heap.size, 10, none⟩ = some (.slice ac s.cells.length cc) ∧ x.cell? ⟨w.heap.size, 11, none⟩ = some (.slice ah s.hist.length dh)) := zz (fun x h => ⟨(h.cell (p := ⟨w.heap.size, 0, none⟩) k_l).trans k_0, (h.cell (p := ⟨w.heap.size, 1, none⟩) k_l).trans k_1, (h.cell (p := ⟨w.heap.size, 2, none⟩) k_l).trans k_2, (h.cell (p := ⟨w.heap.size, 3, none⟩) k_l).trans k_3, (h.cell (p := ⟨w.heap.size, 4, none⟩) k_l).trans k_4, (h.cell (p := ⟨w.heap.size, 5, none⟩) k_l).trans k_5, (h.cell (p := ⟨w.heap.size, 6, none⟩) k_l).trans k_6, (h.cell (p := ⟨w.heap.size, 7, none⟩) k_l).trans k_7, (h.cell (p := ⟨w.heap.size, 8, none⟩) k_l).trans k_8, (h.cell (p := ⟨w.heap.size, 9, none⟩) k_l).trans k_9, (h.cell (p := ⟨w.heap.size, 10, none⟩) k_l).trans k_10, (h.cell (p := ⟨w.heap.size, 11, none⟩) k_l).trans k_11⟩)
 have HSR : Hid (∀ x, Below x0.heap.size x0 x → sS s ac ah x ∧ w.heap.size < x.heap.size) := zz (fun x h => ⟨HRS.out.below (HB0.out.trans (h.mono HB0.out.size)), Nat.lt_of_lt_of_le k_l h.size⟩)
 go_cut [3] (fun v wx => ∃ g, v = .slice (some ⟨g, 0, none⟩) 3 3 ∧ Hid (Below x0.heap.size x0 wx ∧ Fr sE 9 1 (w.heap.size + 1) wx.heap.size (.slice (some ⟨g, 0, none⟩) 3 3) [N9, s.title, HH] wx))
 case first =>
  refine rO (fun w' => w'.cell? ⟨w.heap.size, 0, none⟩ = some (.int .i64 s.w) ∧ w'.cell? ⟨w.heap.size, 1, none⟩ = some (.int .i64 s.h) ∧ w'.cell? ⟨w.heap.size, 2, none⟩ = some (.int .i64 s.x) ∧ w'.cell? ⟨w.heap.size, 3, none⟩ = some (.int .i64 s.y) ∧ w'.cell? ⟨w.heap.size, 4, none⟩ = some (.int .i64 s.look) ∧ w'.cell? ⟨w.heap.size, 5, none⟩ = some (.int .i64 s.top) ∧ w'.cell? ⟨w.heap.size, 6, none⟩ = some (.int .i64 s.bot) ∧ w'.cell? ⟨w.heap.size, 7, none⟩ = some (.int .i64 s.sx) ∧ w'.cell? ⟨w.heap.size, 8, none⟩ = some (.int .i64 s.sy) ∧ w'.cell? ⟨w.heap.size, 9, none⟩ = some (.string s.title) ∧ w'.cell? ⟨w.heap.size, 11, none⟩ = some (.slice ah s.hist.length dh)) [] [0,1,2,3,4,5,6,7,8,9,10,11,12,13,14,15,16,17,21,22,23,24,18,19,20,25,26,27,28] ?_
  iterate 22 (first | refine oW (h := ?_) | refine oL (hS := hS0) (h := ?_))
  refine oO (hS := .inr hS0) (h := ?_)
  intro K' hK
  go_simp
  obtain ⟨x1, hx1⟩ : ∃ x, (x0.alloc (.cells #[.int .i64 s.w, .int .i64 s.h, .int .i64 s.x, .int .i64 s.y, .int .i64 s.look, .int .i64 s.top, .int .i64 s.bot, .int .i64 s.sx, .int .i64 s.sy] 3)).drew = x := ⟨_, rfl⟩
  have HB1 : Hid (Below x0.heap.size x0 x1) := zz (by rw [← hx1]; exact (bA).drew)
  have HS1 : Hid (Sl iE 1 x1 (some ⟨x0.heap.size, 0, none⟩) (nineL s.i)) := zz (by rw [← hx1]; exact boxL' (enc := iE) (w := x0.drew) (fun _ => rfl) (nineL s.i) _ _ (by simp [nineL, iE, Scr.i]) _ (by simp))
  rw [hx1]
  clear hx1
  refine oN hK (hS := .inr (HSB.out x1 HB1.out)) (h := ?_)
  clear hK K'
  refine oO (hS := .inr (HSB.out x1 HB1.out)) (h := ?_)
  intro K' hK
  go_simp
  go_at_call 96
  refine (HNU.out _ _ HS1.out).mono ?_
  rintro e x2 ⟨v2, rfl, hf2, hbc⟩
  obtain ⟨a2, c2, rfl, hc2, ho2⟩ := id hf2
  have HT : Hid (Sl yE 1 x2 a2 NL) := zz (Sl.of_own (fun _ => rfl) ho2)
  have HB2 : Hid (Below x0.heap.size x0 x2) := zz (HB1.out.trans (hbc.mono HB1.out.size))
  clear hf2 hc2 ho2 hbc
  refine oN hK (hS := .inr (HSB.out x2 HB2.out)) (h := ?_)
  clear hK K'
  refine oB (hS := (HSB.out x2 HB2.out)) (rs := [20, 25]) (by kernel_rfl) (by simp) ?_
  intro j hj
  simp only [List.mem_cons, List.not_mem_nil, or_false] at hj
  rcases hj with rfl | rfl
  ·skip
   have hcv : (convert 22 9 (.slice a2 NL.length c2)).run Tryz.prog x2 = .ok (.string N9) x2 := by rw [← HNS.out]; exact convT HT.out
   refine ⟨_, [25,26,27,28], rfl, by kernel_rfl, rfl, fun K' hK => ?_⟩
   go_simp
   try simp only [hcv, Result.andThen_ok]
   clear hcv
   refine oN hK (hS := .inr (HSB.out x2 HB2.out)) (h := ?_)
   clear hK K'
   refine oO (hS := .inr (HSB.out x2 HB2.out)) (h := ?_)
   intro K' hK
   go_simp
   go_at_call 97
   refine (HFI.out _ (HB0.out.trans (HB2.out.mono HB0.out.size))).mono ?_
   rintro e x3 ⟨v3, rfl, hf3, hbc⟩
   obtain ⟨a3, c3, rfl, hc3, ho3⟩ := id hf3
   have HT3 : Hid (Sl yE 1 x3 a3 HL) := zz (Sl.of_own (fun _ => rfl) ho3)
   have HB3 : Hid (Below x0.heap.size x0 x3) := zz (HB2.out.trans (hbc.mono HB2.out.size))
   have HT2 : Hid (Sl yE 1 x3 a2 NL) := zz (HT.out.keep hbc)
   clear hf3 hc3 ho3 hbc
   refine oN hK (hS := .inr (HSB.out x3 HB3.out)) (h := ?_)
   clear hK K'
   have hcv : (convert 22 9 (.slice a3 HL.length c3)).run Tryz.prog x3 = .ok (.string HH) x3 := by rw [← HHS.out]; exact convT HT3.out
   refine oO (hS := .inr (HSB.out x3 HB3.out)) (h := ?_)
   intro K' hK
   go_simp
   try simp only [hcv, Result.andThen_ok]
   clear hcv
   refine oN hK (hS := .inr (HSB.out x3 HB3.out)) (h := ?_)
   clear hK K'
   refine oO (hS := .inr (HSB.out x3 HB3.out)) (h := ?_)
   intro K' hK
   go_simp
   obtain ⟨x4, hx4⟩ := eX (x3.alloc (.cells #[.string N9, .string s.title, .string HH] 9))
   have HB4 : Hid (Below x0.heap.size x0 x4) := zz (by rw [← hx4]; exact HB3.out.alloc HB3.out.size _)
   have HF4 : Hid (Fr sE 9 1 (w.heap.size + 1) x4.heap.size (.slice (some ⟨x3.heap.size, 0, none⟩) 3 3) [N9, s.title, HH] x4) := zz (by rw [← hx4]; exact Fr.of_owns (cs := [.string N9, .string s.title, .string HH]) ⟨rfl, .inr ⟨x3.heap.size, 3, _, rfl, by have := HB3.out.size; omega, heap_alloc_new x3 _, Nat.le_refl _, by unfold maxLen; omega, rfl, by simp⟩⟩ rfl (by simp [sE]) (by simp))
   rw [hx4]
   clear hx4
   refine oN hK (hS := .inr (HSB.out x4 HB4.out)) (h := ?_)
   clear hK K'
   refine oW (h := ?_)
   refine oD ?_
   go_wp2_with fail
   go_meet
   exact ⟨_, rfl, zz ⟨HB4.out, HF4.out⟩⟩
  ·skip
   refine ⟨_, [20,26,27,28], rfl, by kernel_rfl, rfl, fun K' hK => ?_⟩
   go_simp
   go_at_call 97
   refine (HFI.out _ (HB0.out.trans (HB2.out.mono HB0.out.size))).mono ?_
   rintro e x3 ⟨v3, rfl, hf3, hbc⟩
   obtain ⟨a3, c3, rfl, hc3, ho3⟩ := id hf3
   have HT3 : Hid (Sl yE 1 x3 a3 HL) := zz (Sl.of_own (fun _ => rfl) ho3)
   have HB3 : Hid (Below x0.heap.size x0 x3) := zz (HB2.out.trans (hbc.mono HB2.out.size))
   have HT2 : Hid (Sl yE 1 x3 a2 NL) := zz (HT.out.keep hbc)
   clear hf3 hc3 ho3 hbc
   refine oN hK (hS := .inr (HSB.out x3 HB3.out)) (h := ?_)
   clear hK K'
   refine oB (hS := (HSB.out x3 HB3.out)) (rs := [20, 26]) (by kernel_rfl) (by simp) ?_
   intro j hj
   simp only [List.mem_cons, List.not_mem_nil, or_false] at hj
   rcases hj with rfl | rfl
   ·skip
    have hcv : (convert 22 9 (.slice a2 NL.length c2)).run Tryz.prog x3 = .ok (.string N9) x3 := by rw [← HNS.out]; exact convT HT2.out
    refine ⟨_, [26,27,28], rfl, by kernel_rfl, rfl, fun K' hK => ?_⟩
    go_simp
    try simp only [hcv, Result.andThen_ok]
    clear hcv
    refine oN hK (hS := .inr (HSB.out x3 HB3.out)) (h := ?_)
    clear hK K'
    have hcv : (convert 22 9 (.slice a3 HL.length c3)).run Tryz.prog x3 = .ok (.string HH) x3 := by rw [← HHS.out]; exact convT HT3.out
    refine oO (hS := .inr (HSB.out x3 HB3.out)) (h := ?_)
    intro K' hK
    go_simp
    try simp only [hcv, Result.andThen_ok]
    clear hcv
    refine oN hK (hS := .inr (HSB.out x3 HB3.out)) (h := ?_)
    clear hK K'
    refine oO (hS := .inr (HSB.out x3 HB3.out)) (h := ?_)
    intro K' hK
    go_simp
    obtain ⟨x4, hx4⟩ := eX (x3.alloc (.cells #[.string N9, .string s.title, .string HH] 9))
    have HB4 : Hid (Below x0.heap.size x0 x4) := zz (by rw [← hx4]; exact HB3.out.alloc HB3.out.size _)
    have HF4 : Hid (Fr sE 9 1 (w.heap.size + 1) x4.heap.size (.slice (some ⟨x3.heap.size, 0, none⟩) 3 3) [N9, s.title, HH] x4) := zz (by rw [← hx4]; exact Fr.of_owns (cs := [.string N9, .string s.title, .string HH]) ⟨rfl, .inr ⟨x3.heap.size, 3, _, rfl, by have := HB3.out.size; omega, heap_alloc_new x3 _, Nat.le_refl _, by unfold maxLen; omega, rfl, by simp⟩⟩ rfl (by simp [sE]) (by simp))
    rw [hx4]
    clear hx4
    refine oN hK (hS := .inr (HSB.out x4 HB4.out)) (h := ?_)
    clear hK K'
    refine oW (h := ?_)
    refine oD ?_
    go_wp2_with fail
    go_meet
    exact ⟨_, rfl, zz ⟨HB4.out, HF4.out⟩⟩
   ·skip
    have hcv : (convert 22 9 (.slice a3 HL.length c3)).run Tryz.prog x3 = .ok (.string HH) x3 := by rw [← HHS.out]; exact convT HT3.out
    refine ⟨_, [20,27,28], rfl, by kernel_rfl, rfl, fun K' hK => ?_⟩
    go_simp
    try simp only [hcv, Result.andThen_ok]
    clear hcv
    refine oN hK (hS := .inr (HSB.out x3 HB3.out)) (h := ?_)
    clear hK K'
    have hcv : (convert 22 9 (.slice a2 NL.length c2)).run Tryz.prog x3 = .ok (.string N9) x3 := by rw [← HNS.out]; exact convT HT2.out
    refine oO (hS := .inr (HSB.out x3 HB3.out)) (h := ?_)
    intro K' hK
    go_simp
    try simp only [hcv, Result.andThen_ok]
    clear hcv
    refine oN hK (hS := .inr (HSB.out x3 HB3.out)) (h := ?_)
    clear hK K'
    refine oO (hS := .inr (HSB.out x3 HB3.out)) (h := ?_)
    intro K' hK
    go_simp
    obtain ⟨x4, hx4⟩ := eX (x3.alloc (.cells #[.string N9, .string s.title, .string HH] 9))
    have HB4 : Hid (Below x0.heap.size x0 x4) := zz (by rw [← hx4]; exact HB3.out.alloc HB3.out.size _)
    have HF4 : Hid (Fr sE 9 1 (w.heap.size + 1) x4.heap.size (.slice (some ⟨x3.heap.size, 0, none⟩) 3 3) [N9, s.title, HH] x4) := zz (by rw [← hx4]; exact Fr.of_owns (cs := [.string N9, .string s.title, .string HH]) ⟨rfl, .inr ⟨x3.heap.size, 3, _, rfl, by have := HB3.out.size; omega, heap_alloc_new x3 _, Nat.le_refl _, by unfold maxLen; omega, rfl, by simp⟩⟩ rfl (by simp [sE]) (by simp))
    rw [hx4]
    clear hx4
    refine oN hK (hS := .inr (HSB.out x4 HB4.out)) (h := ?_)
    clear hK K'
    refine oW (h := ?_)
    refine oD ?_
    go_wp2_with fail
    go_meet
    exact ⟨_, rfl, zz ⟨HB4.out, HF4.out⟩⟩
 case rest =>
  obtain ⟨g, rfl, HC⟩ := hcut
  have HXS : Hid (x0.heap.size = w.heap.size + 1) := HXS
  have k_lx : w.heap.size < x0.heap.size := k_l
  clear hS0 HSB k_0 k_1 k_2 k_3 k_4 k_5 k_6 k_7 k_8 k_9 k_10 k_11 k_l
  obtain ⟨ht, hht⟩ := eX (s.h)
  have hh2 : ht ≤ 10 := by rw [← hht]; exact HOK.out.h2
  have HHT := zz hht
  obtain ⟨e_1, hzc⟩ : wc.cell? ⟨w.heap.size, 1, none⟩ = some (.int .i64 ht) ∧ x0.heap.size ≤ wc.heap.size := ⟨by rw [← hht]; exact (HSX.out wc HC.out.1).2.1, HC.out.1.size⟩
  have HCL : Hid (∀ k, k < s.h → ∀ W, sS s ac ah W → Calls Tryz.prog 98 #[scrV s ac cc ah dh, .int .i64 k] W fun e w' => e = .returned (.string (sO_ (celL (rowI s.i k)))) ∧ Below W.heap.size W w') := zz (fun k hk W hW => Yc1 s ac cc ah dh k W hW (by have := HOK.out.w1; omega) HOK.out.w2 HOK.out.h2 hk HOK.out.cn HOK.out.cs)
  unfold scrV at HCL
  rw [hht] at HSX HCL ⊢
  clear hht
  go_wp2_with fail
  go_loopw [3, 4] (fun v i wr => ∃ (k : Nat) (av : Option Addr) (cv : Nat) (L : List ByteArray), k ≤ ht ∧ i = .int .i64 k ∧ v = .slice av L.length cv ∧ L.length ≤ 13 ∧ Hid (L = [N9, s.title, HH] ++ rowsL s.i k ∧ Fr sE 9 1 (w.heap.size + 1) wr.heap.size (.slice av L.length cv) L wr ∧ Below x0.heap.size x0 wr)) (fun _ i _ => ht - (intOf i).toNat)
  case atStart => exact ⟨0, _, _, [N9, s.title, HH], Nat.zero_le _, rfl, rfl, by simp, zz ⟨by simp [rowsL], HC.out.2, HC.out.1⟩⟩
  case round =>
   obtain ⟨k, av, cv, L, hk, rfl, rfl, hL13, HQ⟩ := hrel
   obtain ⟨k_0, k_1, k_2, k_3, k_4, k_5, k_6, k_7, k_8, k_9, k_10, k_11⟩ := HSX.out wr HQ.out.2.2
   by_cases hlt : k < ht
   ·have hlt' : (k : Int) < (ht : Int) := by omega
    have HRW : Hid (rowsL s.i (k + 1) = rowsL s.i k ++ [sO_ (celL (rowI s.i k))]) := zz (by simp [rowsL, List.range_succ])
    obtain ⟨R, hR⟩ := eX (sO_ (celL (rowI s.i k)))
    have HCT : Hid (∀ W, Below wr.heap.size wr W → Calls Tryz.prog 98 #[.agg #[.int .i64 s.w, .int .i64 ht, .int .i64 s.x, .int .i64 s.y, .int .i64 s.look, .int .i64 s.top, .int .i64 s.bot, .int .i64 s.sx, .int .i64 s.sy, .string s.title, .slice ac s.cells.length cc, .slice ah s.hist.length dh], .int .i64 k] W fun e w' => e = .returned (.string R) ∧ Below W.heap.size W w') := zz (fun W hW => by rw [← hR]; exact HCL.out k hlt W (((HSR.out wr HQ.out.2.2).1).below hW))
    rw [hR] at HRW
    clear hR
    have HZ : Hid (L.length + 1 ≤ 13) := zz (by rw [HQ.out.1]; simp [rowsL]; omega)
    go_upto_region 5 with fail
    go_wp2_with fail
    refine (HCT.out wr (Below.refl _ _)).mono ?_
    rintro e w2 ⟨rfl, hb2⟩
    have HB2' := zz hb2
    have hzq := hb2.size
    have hzb := HQ.out.2.2.size
    have HF2 : Hid (Fr sE 9 1 (w.heap.size + 1) w2.heap.size (.slice av L.length cv) L w2) := zz ((HQ.out.2.1.below hb2).mono (Nat.le_refl _) hzq)
    clear hb2
    go_wp2_with (first
     | (skip
        at_builtin
        refine wF rfl (.tmp 39) (.tmp 43) 24 24 rfl (w.heap.size + 1) (w2.heap.size) 9 i0 (.string ⟨#[]⟩) 1 16 Tryz.underlying24 hi hz0 hz1 hz2 rfl (by decide) (.slice av L.length cv) (L) rfl (HF2.out.alloc _) _ ([R]) rfl (Src.ofBox (enc := sE) (w := w2) Tryz.underlying24 (fun _ => rfl) strOneC R #[.string R] 9 rfl w2.heap.size rfl) (by (try simp) <;> (try omega)) (by (try simp) <;> (try omega)) ?_
        intro a3 c3 w3 L3 hL3 hf3 hm3
        skip))
    go_roundw
    case rel =>
     have e3 : L3 = [N9, s.title, HH] ++ rowsL s.i (k + 1) := by rw [hL3.out, HQ.out.1, HRW.out, List.append_assoc]
     refine ⟨k + 1, a3, c3, L3, by omega, by go_num, rfl, by rw [hL3.out, List.length_append]; exact HZ.out, zz ⟨e3, hf3.1.here, ?_⟩⟩
     exact (HQ.out.2.2.trans ((HB2'.out.alloc hzq _).mono hzb)).trans (hm3.below (B := x0.heap.size) (by have := HXS.out; omega) (by simp; omega))
    case measure => simp [intOf]; omega
   ·obtain rfl : k = ht := by omega
    have HLE : Hid (L = N9 :: s.title :: HH :: rowsL s.i s.h) := zz (by rw [HQ.out.1, HHT.out]; rfl)
    obtain ⟨T, hT⟩ := eX (fldL L)
    have HT : Hid (fldL (N9 :: s.title :: HH :: rowsL s.i s.h) = T) := zz (by rw [← HLE.out]; exact hT)
    have HFC : Hid (Calls Tryz.prog 97 #[.slice av L.length cv] wr (Ze0 yE 5 1 wr T)) := zz (by
     rw [← hT]
     refine Zj8 av cv L wr (HQ.out.2.1.sl (fun _ => rfl)) (by omega) (fun r hr => ?_)
     rw [HLE.out] at hr
     have := HFS.out r hr
     omega)
    clear hT
    go_wp2_with fail
    refine HFC.out.mono ?_
    rintro e w2 ⟨v2, rfl, hf2, hb2⟩
    obtain ⟨a2, c2, rfl, hc2, ho2⟩ := id hf2
    have HT2 : Hid (Sl yE 1 w2 a2 T) := zz (Sl.of_own (fun _ => rfl) ho2)
    have HB2' := zz hb2
    have hcv : (convert 22 9 (.slice a2 T.length c2)).run Tryz.prog w2 = .ok (.string (sO_ T)) w2 := convT HT2.out
    clear hf2 hc2 ho2 hb2
    go_wp2_with fail
    go_ret
    exact ⟨by rw [HT.out]; rfl, HB0.out.trans ((HQ.out.2.2.trans (HB2'.out.mono HQ.out.2.2.size)).mono HB0.out.size)⟩
end
section
noncomputable def cvC (s : ByteArray) (w : World) : Nat := grownCap w s.size 0 5
noncomputable def cvW (s : ByteArray) (w : World) : World := w.drew.alloc (.cells (bytesRow s (cvC s w)) 5 ((bytesRow s (cvC s w)).size, (bytesRow s (cvC s w)).size + 1))
theorem cv_run (s : ByteArray) (w : World) : (convert 9 22 (.string s)).run Tryz.prog w = .ok (.slice (some ⟨w.heap.size, 0, none⟩) s.size (cvC s w)) (cvW s w) :=
 run_bytes_of_string w 9 22 5 s Tryz.underlying9 Tryz.underlying22 Tryz.underlying5
theorem Zr5 (s : ByteArray) (w : World) {B : Nat} (h : B ≤ w.heap.size) : Below B w (cvW s w) := ((Below.refl B w).drew).alloc h _
theorem cvW_sl (s : ByteArray) (w : World) : Sl yE 1 (cvW s w) (some ⟨w.heap.size, 0, none⟩) s.data.toList := by
 refine .inr ⟨w.heap.size, 0, rfl, by simp [cvW], fun i hi j hj => ?_⟩
 obtain rfl : j = 0 := by omega
 have h1 : (cvW s w).cell? ⟨w.heap.size, 0 + i * 1 + 0, none⟩ = (bytesRow s (cvC s w))[0 + i * 1 + 0]? :=
  cell_of_row (cvW s w) w.heap.size _ _ _ _ (heap_alloc_new w.drew _)
 rw [h1]
 have h2 := bytesRow_at s (cvC s w) i (by simpa using hi)
 simp only [Nat.zero_add, Nat.mul_one, Nat.add_zero]
 rw [h2]
 simp [yE]
end
section
def Yc9 (l : List UInt8) (w : World) (e : Ending) (w' : World) : Prop :=
 ∃ a c, e = .returned (.tuple #[.slice a l.length c, .int .i64 0]) ∧ Sl yE 1 w' a l ∧ Below w.heap.size w w'
theorem Yc4 (s : Scr) (HO : sK s) (ac : Option Addr) (cc : Nat) (ah : Option Addr) (dh : Nat) (w : World) (h : sS s ac ah w) :
 Calls Tryz.prog 24 #[scrV s ac cc ah dh] w fun e w' => e = .returned (.bool true) ∧ Below w.heap.size w w' := by
 have := Ya4 s.i ac cc ah dh w h.cs h.hs (by have := HO.cn; have := Nat.mul_le_mul HO.w2 HO.h2; simp only [Scr.i]; omega) (by have := HO.hn; simp only [Scr.i]; omega) (by have := (Zp8.1 HO.ti).1; simp only [Scr.i]; omega)
 rw [HO.b] at this
 exact this
theorem scrOK_c (s : Scr) (HO : sK s) (ac : Option Addr) (cc : Nat) (ah : Option Addr) (dh : Nat) (w : World) (h : sS s ac ah w) :
 Calls Tryz.prog 27 #[scrV s ac cc ah dh] w fun e w' => e = .returned (.bool true) ∧ Below w.heap.size w w' := by
 have := Zm2 s.i ac cc ah dh w h.cs h.hs (by have := HO.cn; have := Nat.mul_le_mul HO.w2 HO.h2; simp only [Scr.i]; omega) (by have := HO.hn; simp only [Scr.i]; omega)
 rw [HO.b] at this
 exact this
theorem Zc6 (s : Scr) (HO : sK s) (ac : Option Addr) (cc : Nat) (ah : Option Addr) (dh : Nat) (w : World) (h : sS s ac ah w) :
 Calls Tryz.prog 30 #[scrV s ac cc ah dh] w (Yc9 (Zb4 s.i) w) := by
 have HR := zz h
 have HI : Hid (∀ W, sS s ac ah W → Calls Tryz.prog 27 #[.agg #[.int .i64 s.w, .int .i64 s.h, .int .i64 s.x, .int .i64 s.y, .int .i64 s.look, .int .i64 s.top, .int .i64 s.bot, .int .i64 s.sx, .int .i64 s.sy, .string s.title, .slice ac s.cells.length cc, .slice ah s.hist.length dh]] W fun e w' => e = .returned (.bool true) ∧ Below W.heap.size W w') := zz (fun W hW => scrOK_c s HO ac cc ah dh W hW)
 have HT : Hid (∀ W, sS s ac ah W → Calls Tryz.prog 62 #[.agg #[.int .i64 s.w, .int .i64 s.h, .int .i64 s.x, .int .i64 s.y, .int .i64 s.look, .int .i64 s.top, .int .i64 s.bot, .int .i64 s.sx, .int .i64 s.sy, .string s.title, .slice ac s.cells.length cc, .slice ah s.hist.length dh]] W fun e w' => e = .returned (.string (sO_ (Zb4 s.i))) ∧ Below W.heap.size W w') := zz (fun W hW => Yb8 s HO ac cc ah dh W hW)
 unfold scrV
 obtain ⟨l, hl⟩ := eX (Zb4 s.i)
 obtain ⟨S, hS⟩ := eX (sO_ l)
 rw [hl] at HT ⊢
 rw [hS] at HT
 have HSZ : Hid (S.size = l.length) := zz (by rw [← hS]; rfl)
 have HSD : Hid (S.data.toList = l) := zz (by rw [← hS]; exact Zl5 l)
 clear h HO hl hS
 go_enter Tryz.func30, Tryz.ntmps30
 go_wp2_with fail
 refine (HI.out _ (HR.out.alloc _)).mono ?_
 rintro e w1 ⟨rfl, hb1⟩
 have hzz := hb1.size
 simp only [World.size_alloc] at hzz
 have k_0 : w1.cell? ⟨w.heap.size, 0, none⟩ = some (.int .i64 s.w) := kC hb1 (by simp) (by simp [go_sem])
 have k_1 : w1.cell? ⟨w.heap.size, 1, none⟩ = some (.int .i64 s.h) := kC hb1 (by simp) (by simp [go_sem])
 have k_2 : w1.cell? ⟨w.heap.size, 2, none⟩ = some (.int .i64 s.x) := kC hb1 (by simp) (by simp [go_sem])
 have k_3 : w1.cell? ⟨w.heap.size, 3, none⟩ = some (.int .i64 s.y) := kC hb1 (by simp) (by simp [go_sem])
 have k_4 : w1.cell? ⟨w.heap.size, 4, none⟩ = some (.int .i64 s.look) := kC hb1 (by simp) (by simp [go_sem])
 have k_5 : w1.cell? ⟨w.heap.size, 5, none⟩ = some (.int .i64 s.top) := kC hb1 (by simp) (by simp [go_sem])
 have k_6 : w1.cell? ⟨w.heap.size, 6, none⟩ = some (.int .i64 s.bot) := kC hb1 (by simp) (by simp [go_sem])
 have k_7 : w1.cell? ⟨w.heap.size, 7, none⟩ = some (.int .i64 s.sx) := kC hb1 (by simp) (by simp [go_sem])
 have k_8 : w1.cell? ⟨w.heap.size, 8, none⟩ = some (.int .i64 s.sy) := kC hb1 (by simp) (by simp [go_sem])
 have k_9 : w1.cell? ⟨w.heap.size, 9, none⟩ = some (.string s.title) := kC hb1 (by simp) (by simp [go_sem])
 have k_10 : w1.cell? ⟨w.heap.size, 10, none⟩ = some (.slice ac s.cells.length cc) := kC hb1 (by simp) (by simp [go_sem])
 have k_11 : w1.cell? ⟨w.heap.size, 11, none⟩ = some (.slice ah s.hist.length dh) := kC hb1 (by simp) (by simp [go_sem])
 have HR1 : Hid (sS s ac ah w1) := zz ((HR.out.alloc _).below hb1)
 have HB1 : Hid (Below w.heap.size w w1) := zz ((bA).trans (hb1.mono (by simp)))
 clear hb1
 go_wp2_with fail
 refine (HT.out _ HR1.out).mono ?_
 rintro e w2 ⟨rfl, hb2⟩
 have HB2 := zz hb2
 clear hb2 k_0 k_1 k_2 k_3 k_4 k_5 k_6 k_7 k_8 k_9 k_10 k_11
 have hcv := cv_run S w2
 go_wp2_with fail
 go_ret2
 refine ⟨some ⟨w2.heap.size, 0, none⟩, cvC S w2, by rw [HSZ.out]; rfl, by rw [← HSD.out]; exact cvW_sl S w2, ?_⟩
 exact HB1.out.trans ((HB2.out.mono HB1.out.size).trans (Zr5 S w2 (Nat.le_trans HB1.out.size HB2.out.size)))
theorem Zh1 (s t : Scr) (HO : sK s) (HP : sK t) (ac : Option Addr) (cc : Nat) (ah : Option Addr) (dh : Nat) (bc : Option Addr) (ec : Nat) (bh : Option Addr) (fh : Nat) (w : World) (h : sS s ac ah w) (k : sS t bc bh w) (hst : Zb4 s.i = Zb4 t.i) :
 Calls Tryz.prog 10 #[scrV s ac cc ah dh, scrV t bc ec bh fh] w fun e w' => e = .returned (.bool true) ∧ Below w.heap.size w w' := by
 have HR := zz h
 have HQ := zz k
 have HT : Hid (∀ W, sS s ac ah W → Calls Tryz.prog 30 #[.agg #[.int .i64 s.w, .int .i64 s.h, .int .i64 s.x, .int .i64 s.y, .int .i64 s.look, .int .i64 s.top, .int .i64 s.bot, .int .i64 s.sx, .int .i64 s.sy, .string s.title, .slice ac s.cells.length cc, .slice ah s.hist.length dh]] W (Yc9 (Zb4 s.i) W)) := zz (fun W hW => Zc6 s HO ac cc ah dh W hW)
 have HU : Hid (∀ W, sS t bc bh W → Calls Tryz.prog 30 #[.agg #[.int .i64 t.w, .int .i64 t.h, .int .i64 t.x, .int .i64 t.y, .int .i64 t.look, .int .i64 t.top, .int .i64 t.bot, .int .i64 t.sx, .int .i64 t.sy, .string t.title, .slice bc t.cells.length ec, .slice bh t.hist.length fh]] W (Yc9 (Zb4 s.i) W)) := zz (fun W hW => by rw [hst]; exact Zc6 t HP bc ec bh fh W hW)
 unfold scrV
 obtain ⟨l, hl⟩ := eX (Zb4 s.i)
 rw [hl] at HT HU
 clear h k HO HP hl hst
 go_enter Tryz.func10, Tryz.ntmps10
 go_wp2_with fail
 refine (HT.out _ ((HR.out.alloc _).alloc _)).mono ?_
 rintro e w1 ⟨a1, c1, rfl, hs1, hb1⟩
 have hzz := hb1.size
 simp only [World.size_alloc] at hzz
 have k_0 : w1.cell? ⟨w.heap.size, 0, none⟩ = some (.int .i64 s.w) := kC hb1 (by simp; omega) (by simp [go_sem])
 have k_1 : w1.cell? ⟨w.heap.size, 1, none⟩ = some (.int .i64 s.h) := kC hb1 (by simp; omega) (by simp [go_sem])
 have k_2 : w1.cell? ⟨w.heap.size, 2, none⟩ = some (.int .i64 s.x) := kC hb1 (by simp; omega) (by simp [go_sem])
 have k_3 : w1.cell? ⟨w.heap.size, 3, none⟩ = some (.int .i64 s.y) := kC hb1 (by simp; omega) (by simp [go_sem])
 have k_4 : w1.cell? ⟨w.heap.size, 4, none⟩ = some (.int .i64 s.look) := kC hb1 (by simp; omega) (by simp [go_sem])
 have k_5 : w1.cell? ⟨w.heap.size, 5, none⟩ = some (.int .i64 s.top) := kC hb1 (by simp; omega) (by simp [go_sem])
 have k_6 : w1.cell? ⟨w.heap.size, 6, none⟩ = some (.int .i64 s.bot) := kC hb1 (by simp; omega) (by simp [go_sem])
 have k_7 : w1.cell? ⟨w.heap.size, 7, none⟩ = some (.int .i64 s.sx) := kC hb1 (by simp; omega) (by simp [go_sem])
 have k_8 : w1.cell? ⟨w.heap.size, 8, none⟩ = some (.int .i64 s.sy) := kC hb1 (by simp; omega) (by simp [go_sem])
 have k_9 : w1.cell? ⟨w.heap.size, 9, none⟩ = some (.string s.title) := kC hb1 (by simp; omega) (by simp [go_sem])
 have k_10 : w1.cell? ⟨w.heap.size, 10, none⟩ = some (.slice ac s.cells.length cc) := kC hb1 (by simp; omega) (by simp [go_sem])
 have k_11 : w1.cell? ⟨w.heap.size, 11, none⟩ = some (.slice ah s.hist.length dh) := kC hb1 (by simp; omega) (by simp [go_sem])
 have q_0 : w1.cell? ⟨w.heap.size + 1, 0, none⟩ = some (.int .i64 t.w) := kC hb1 (by simp) (by simp [go_sem])
 have q_1 : w1.cell? ⟨w.heap.size + 1, 1, none⟩ = some (.int .i64 t.h) := kC hb1 (by simp) (by simp [go_sem])
 have q_2 : w1.cell? ⟨w.heap.size + 1, 2, none⟩ = some (.int .i64 t.x) := kC hb1 (by simp) (by simp [go_sem])
 have q_3 : w1.cell? ⟨w.heap.size + 1, 3, none⟩ = some (.int .i64 t.y) := kC hb1 (by simp) (by simp [go_sem])
 have q_4 : w1.cell? ⟨w.heap.size + 1, 4, none⟩ = some (.int .i64 t.look) := kC hb1 (by simp) (by simp [go_sem])
 have q_5 : w1.cell? ⟨w.heap.size + 1, 5, none⟩ = some (.int .i64 t.top) := kC hb1 (by simp) (by simp [go_sem])
 have q_6 : w1.cell? ⟨w.heap.size + 1, 6, none⟩ = some (.int .i64 t.bot) := kC hb1 (by simp) (by simp [go_sem])
 have q_7 : w1.cell? ⟨w.heap.size + 1, 7, none⟩ = some (.int .i64 t.sx) := kC hb1 (by simp) (by simp [go_sem])
 have q_8 : w1.cell? ⟨w.heap.size + 1, 8, none⟩ = some (.int .i64 t.sy) := kC hb1 (by simp) (by simp [go_sem])
 have q_9 : w1.cell? ⟨w.heap.size + 1, 9, none⟩ = some (.string t.title) := kC hb1 (by simp) (by simp [go_sem])
 have q_10 : w1.cell? ⟨w.heap.size + 1, 10, none⟩ = some (.slice bc t.cells.length ec) := kC hb1 (by simp) (by simp [go_sem])
 have q_11 : w1.cell? ⟨w.heap.size + 1, 11, none⟩ = some (.slice bh t.hist.length fh) := kC hb1 (by simp) (by simp [go_sem])
 have HQ1 : Hid (sS t bc bh w1) := zz (((HQ.out.alloc _).alloc _).below hb1)
 have HB1 : Hid (Below w.heap.size w w1) := zz (((bA).alloc (by simp) _).trans (hb1.mono (by simp; omega)))
 have HS1 := zz hs1
 clear hb1 hs1
 go_wp2_with fail
 refine (HU.out _ HQ1.out).mono ?_
 rintro e w2 ⟨a2, c2, rfl, hs2, hb2⟩
 have HB2 := zz hb2
 have hs1 := HS1.out.keep hb2
 have hcv1 : (convert 22 9 (.slice a1 l.length c1)).run Tryz.prog w2 = .ok (.string (sO_ l)) w2 := convT hs1
 have hcv2 : (convert 22 9 (.slice a2 l.length c2)).run Tryz.prog w2 = .ok (.string (sO_ l)) w2 := convT hs2
 clear hb2 hs1 hs2 k_0 k_1 k_2 k_3 k_4 k_5 k_6 k_7 k_8 k_9 k_10 k_11 q_0 q_1 q_2 q_3 q_4 q_5 q_6 q_7 q_8 q_9 q_10 q_11
 have he : ((sO_ l).toList == (sO_ l).toList) = true := beq_self_eq_true _
 generalize sO_ l = S at hcv1 hcv2 he
 go_wp2_with fail
 go_ret
 exact ⟨rfl, HB1.out.trans (HB2.out.mono HB1.out.size)⟩
end
section
def ScrM (s : Scr) (w : World) (e : Ending) (w' : World) : Prop :=
 ∃ ac cc ah dh, e = .returned (.tuple #[scrV s ac cc ah dh, .int .i64 0]) ∧ sF w.heap.size s ac cc ah dh w' ∧ Below w.heap.size w w'
end
end Go.Proofs.YtjmpgeffkdjpdaaGreatDoor
