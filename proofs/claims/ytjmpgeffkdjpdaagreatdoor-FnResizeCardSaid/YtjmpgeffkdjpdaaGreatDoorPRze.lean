/- Contracts of the functions that the claim reaches. No conditions but sizes. -/
import Derived.Test.YtjmpgeffkdjpdaaGreatDoorPRzd
import Derived.Laws.IdiomCopy
namespace Go.Proofs.YtjmpgeffkdjpdaaGreatDoor
set_option linter.unusedVariables false
set_option linter.unusedSimpArgs false
set_option maxRecDepth 100000
set_option maxHeartbeats 16000000
section
open Go.RowKit
theorem lookN_max (l : Nat) (x : Int) : lookN l (max 0 x) = lookN l x := by
  by_cases h : x ≤ 0
  · rw [show max 0 x = 0 by omega]
    unfold lookN
    rw [if_pos (by omega), if_pos h]
  · rw [show max 0 x = x by omega]
theorem looksOK {s : Scr} (h : ScrOK s) (xs : List Int) : ScrOK { s with look := xs.foldl lookN s.look } :=
  ⟨h.w1, h.w2, h.h1, h.h2, h.hx, h.hy, looks_ok h.lk xs, h.tb, h.bh, h.hsx, h.hsy, h.ti, h.cn, h.cs, h.hn, h.hs⟩
theorem csi109_c (lo b : Nat) (s : Scr) (g cc : Nat) (ah : Option Addr) (dh : Nat) (w : World) (kd : Int) (xs : List Int) (aa : Option Addr) (ca : Nat) (tx : ByteArray) (h : ScrAt lo b 0 s g cc ah dh w) (ok : ScrOK s) (hlo : lo ≤ w.heap.size) (ha : Sl intE 1 w aa xs) (hna : ∀ k ∈ blkOf aa, k ≠ b ∧ k ≠ g ∧ k ∉ blkOf ah) (hx8 : xs.length ≤ 8) (hxr : ∀ x ∈ xs, -1 ≤ x ∧ x ≤ 9999) :
    Calls Tryz.prog 82 #[.pointer (some ⟨b, 0, none⟩), .agg #[.int .i64 kd, .int .i64 109, .bool false, .slice aa xs.length ca, .string tx]] w fun e w' => e = .returned (.tuple #[]) ∧ ScrR lo b 0 (csiS s 109 xs) g ah w w' := by
  have HS := Lib.hid h
  have HOK := Lib.hid ok
  have HA := Lib.hid ha
  have HNA := Lib.hid hna
  have HXR := Lib.hid hxr
  have HX8 := Lib.hid hx8
  have hw1 := ok.w1
  have hw2 := ok.w2
  have hh1 := ok.h1
  have hh2 := ok.h2
  have hx := ok.hx
  have hy := ok.hy
  have hcur := ok.cur
  have hcn := ok.cn
  have hlt := h.lt
  obtain ⟨n, hn⟩ : ∃ n, arg1 xs 0 = n := ⟨_, rfl⟩
  obtain ⟨A0, hA0⟩ : ∃ a, argA xs 0 1 = a := ⟨_, rfl⟩
  have hAb : -1 ≤ A0 ∧ A0 ≤ 9999 := by rw [← hA0]; exact argA_bd HXR.out (by omega) (by omega)
  have hm : max 1 A0 = (n : Int) := by rw [← hn, ← hA0]; unfold arg1; omega
  have hn1 : 1 ≤ n := by omega
  have hn2 : n ≤ 9999 := by omega
  have HN := Lib.hid hn
  have HA0 := Lib.hid hA0
  obtain ⟨p, hp⟩ : ∃ p, s.y * s.w = p := ⟨_, rfl⟩
  obtain ⟨mx, hmx⟩ : ∃ m, min s.x (s.w - 1) = m := ⟨_, rfl⟩
  obtain ⟨cr, hcr⟩ : ∃ c, curS s = c := ⟨_, rfl⟩
  obtain ⟨pn, hpn⟩ : ∃ q, (s.y + 1) * s.w = q := ⟨_, rfl⟩
  obtain ⟨nn, hnn⟩ : ∃ q, s.w * s.h = q := ⟨_, rfl⟩
  have hpi : (s.y : Int) * (s.w : Int) = (p : Int) := by rw [← hp]; exact (Int.natCast_mul _ _).symm
  have hpni : ((s.y : Int) + 1) * (s.w : Int) = (pn : Int) := by rw [← hpn]; exact (Int.natCast_mul (s.y + 1) s.w).symm
  have hnni : (s.w : Int) * (s.h : Int) = (nn : Int) := by rw [← hnn]; exact (Int.natCast_mul _ _).symm
  have hmi : min (s.x : Int) ((s.w : Int) - 1) = (mx : Int) := by omega
  have hcri : (p : Int) + (mx : Int) = (cr : Int) := by rw [← hcr, ← hp, ← hmx]; unfold curS; omega
  have hn240 : nn ≤ 240 := by rw [← hnn]; exact Nat.mul_le_mul hw2 hh2
  rw [hcr, hp, hpn, hnn] at hcur
  rw [hnn] at hcn
  obtain ⟨hc1, hc2, hc3⟩ := hcur
  have HCN := Lib.hid hcn
  have HP := Lib.hid hp
  have HMX := Lib.hid hmx
  have HCR := Lib.hid hcr
  have HPN := Lib.hid hpn
  have HNN := Lib.hid hnn
  have hwA : IntKind.i64.wrap ((s.w : Int) - 1) = (s.w : Int) - 1 := IntWalk.i64_in _ ⟨by omega, by omega⟩
  have hwB : IntKind.i64.wrap (p : Int) = (p : Int) := IntWalk.i64_in _ ⟨by omega, by omega⟩
  have hwC : IntKind.i64.wrap (cr : Int) = (cr : Int) := IntWalk.i64_in _ ⟨by omega, by omega⟩
  have hwD : IntKind.i64.wrap (pn : Int) = (pn : Int) := IntWalk.i64_in _ ⟨by omega, by omega⟩
  have hwE : IntKind.i64.wrap (nn : Int) = (nn : Int) := IntWalk.i64_in _ ⟨by omega, by omega⟩
  have hwF : IntKind.i64.wrap ((s.y : Int) + 1) = (s.y : Int) + 1 := IntWalk.i64_in _ ⟨by omega, by omega⟩
  have hwG : IntKind.i64.wrap ((cr : Int) + 1) = (cr : Int) + 1 := IntWalk.i64_in _ ⟨by omega, by omega⟩
  obtain ⟨ln, hln⟩ : ∃ l, xs.length = l := ⟨_, rfl⟩
  have HLN := Lib.hid hln
  have HCALL : ∀ (i : Nat) (d : Int) (W : World), i ≤ 7 → Sl intE 1 W aa xs → Calls Tryz.prog 117 #[.agg #[.int .i64 kd, .int .i64 109, .bool false, .slice aa ln ca, .string tx], .int .i64 i, .int .i64 d] W fun e w' => e = .returned (.int .i64 (argA xs i d)) ∧ Below W.heap.size W w' := fun i d W hi hW => by
    rw [← hln]
    exact l03ArgG_c kd 109 false tx xs aa ca i d W hW hi hx8
  rw [hln]
  clear h ok ha hna hxr hx8 hn hA0 hp hmx hcr hpn hnn hcn hln
  go_enter Tryz.func82, Tryz.ntmps82
  go_wp2_with fail
  refine (HCALL 0 1 _ (by omega) (HA.out.alloc _)).mono ?_
  rintro e v0 ⟨rfl, hb0⟩
  rw [HA0.out]
  have HB0 : Hid (Below w.heap.size w v0) := Lib.hid (((Below.refl w.heap.size w).alloc (Nat.le_refl _) _).trans (hb0.mono (by simp)))
  have hz0 := HB0.out.size
  have q_l : w.heap.size < v0.heap.size := by have := hb0.size; simp at this; omega
  have q_0 : v0.cell? ⟨w.heap.size, 0, none⟩ = some (.int .i64 kd) := kC hb0 (by simp) (by simp [go_sem])
  have q_1 : v0.cell? ⟨w.heap.size, 1, none⟩ = some (.int .i64 109) := kC hb0 (by simp) (by simp [go_sem])
  have q_2 : v0.cell? ⟨w.heap.size, 2, none⟩ = some (.bool false) := kC hb0 (by simp) (by simp [go_sem])
  have q_3 : v0.cell? ⟨w.heap.size, 3, none⟩ = some (.slice aa ln ca) := kC hb0 (by simp) (by simp [go_sem])
  have q_4 : v0.cell? ⟨w.heap.size, 4, none⟩ = some (.string tx) := kC hb0 (by simp) (by simp [go_sem])
  clear hb0
  have q_b : ¬ w.heap.size = b := by omega
  have HA_nb : ∀ k ∈ blkOf aa, ¬ k = b := fun k hk => (HNA.out k hk).1
  have Hv0 := Lib.hid (HS.out.below HB0.out)
  have HA2 := Lib.hid (HA.out.keep HB0.out)
  have HUv0 : Hid (Upd b 0 (0 + 12) (fun k => k = g ∨ k ∈ blkOf ah) w v0) := Lib.hid (Upd.refl'.below HB0.out HS.out.lt)
  have HA2_nb := HA_nb
  have k_0 := Hv0.out.e0
  have k_1 := Hv0.out.e1
  have k_2 := Hv0.out.e2
  have k_3 := Hv0.out.e3
  have k_4 := Hv0.out.e4
  have k_5 := Hv0.out.e5
  have k_6 := Hv0.out.e6
  have k_7 := Hv0.out.e7
  have k_8 := Hv0.out.e8
  have k_9 := Hv0.out.e9
  have k_10 := Hv0.out.e10
  have k_11 := Hv0.out.e11
  have k_f := Hv0.out.fz
  have k_l := Hv0.out.lt
  go_upto_region 4 with fail
  have hSc1 := And.intro k_0 (And.intro k_2 k_3)
  refine wp_region_G (fun w' => w'.cell? ⟨b, 0, none⟩ = some (.int .i64 (s.w : Int)) ∧ w'.cell? ⟨b, 2, none⟩ = some (.int .i64 (s.x : Int)) ∧ w'.cell? ⟨b, 3, none⟩ = some (.int .i64 (s.y : Int))) (fun i => false) (by kernel_rfl) hSc1 ?_
  refine tW ?_ 0 rfl ?_ ?_; rotate_left
  · intro w' hSw; go_simp; try rfl
  try simp only [Act.put,j1,j2,j3,j4,j5,j6]
  refine tW ?_ 1 rfl ?_ ?_; rotate_left
  · intro w' hSw; go_simp; try rfl
  try simp only [Act.put,j1,j2,j3,j4,j5,j6]
  refine tW ?_ 2 rfl ?_ ?_; rotate_left
  · intro w' hSw; go_simp; try rfl
  try simp only [Act.put,j1,j2,j3,j4,j5,j6]
  refine tL ?_ 3 rfl hSc1 ?_ ?_; rotate_left
  · intro w' hSw; obtain ⟨s0, s1, s2⟩ := hSw; go_simp; try rfl
  try simp only [Act.put,j1,j2,j3,j4,j5,j6]
  refine tW ?_ 4 rfl ?_ ?_; rotate_left
  · intro w' hSw; go_simp; try rfl
  try simp only [Act.put,j1,j2,j3,j4,j5,j6]
  refine tW ?_ 5 rfl ?_ ?_; rotate_left
  · intro w' hSw; go_simp; try rfl
  try simp only [Act.put,j1,j2,j3,j4,j5,j6]
  refine tW ?_ 6 rfl ?_ ?_; rotate_left
  · intro w' hSw; go_simp; try rfl
  try simp only [Act.put,j1,j2,j3,j4,j5,j6]
  refine tL ?_ 7 rfl hSc1 ?_ ?_; rotate_left
  · intro w' hSw; obtain ⟨s0, s1, s2⟩ := hSw; go_simp; try rfl
  try simp only [Act.put,j1,j2,j3,j4,j5,j6]
  refine tW ?_ 8 rfl ?_ ?_; rotate_left
  · intro w' hSw; go_simp; try rfl
  try simp only [Act.put,j1,j2,j3,j4,j5,j6]
  refine tW ?_ 9 rfl ?_ ?_; rotate_left
  · intro w' hSw; go_simp; try rfl
  try simp only [Act.put,j1,j2,j3,j4,j5,j6]
  refine tW ?_ 10 rfl ?_ ?_; rotate_left
  · intro w' hSw; go_simp; try rfl
  try simp only [Act.put,j1,j2,j3,j4,j5,j6]
  refine tW ?_ 11 rfl ?_ ?_; rotate_left
  · intro w' hSw; go_simp; try rfl
  try simp only [Act.put,j1,j2,j3,j4,j5,j6]
  refine tL ?_ 12 rfl hSc1 ?_ ?_; rotate_left
  · intro w' hSw; obtain ⟨s0, s1, s2⟩ := hSw; go_simp; try rfl
  try simp only [Act.put,j1,j2,j3,j4,j5,j6]
  refine tW ?_ 13 rfl ?_ ?_; rotate_left
  · intro w' hSw; go_simp; try rfl
  try simp only [Act.put,j1,j2,j3,j4,j5,j6]
  refine tW ?_ 14 rfl ?_ ?_; rotate_left
  · intro w' hSw; go_simp; try rfl
  try simp only [Act.put,j1,j2,j3,j4,j5,j6]
  refine tW ?_ 15 rfl ?_ ?_; rotate_left
  · intro w' hSw; go_simp; try rfl
  try simp only [Act.put,j1,j2,j3,j4,j5,j6]
  refine tL ?_ 16 rfl hSc1 ?_ ?_; rotate_left
  · intro w' hSw; obtain ⟨s0, s1, s2⟩ := hSw; go_simp; try rfl
  try simp only [Act.put,j1,j2,j3,j4,j5,j6]
  refine tW ?_ 17 rfl ?_ ?_; rotate_left
  · intro w' hSw; go_simp; try rfl
  try simp only [Act.put,j1,j2,j3,j4,j5,j6]
  refine tW ?_ 18 rfl ?_ ?_; rotate_left
  · intro w' hSw; go_simp; try rfl
  try simp only [Act.put,j1,j2,j3,j4,j5,j6]
  refine tW ?_ 19 rfl ?_ ?_; rotate_left
  · intro w' hSw; go_simp; try rfl
  try simp only [Act.put,j1,j2,j3,j4,j5,j6]
  refine tW ?_ 20 rfl ?_ ?_; rotate_left
  · intro w' hSw; go_simp; try rfl
  try simp only [Act.put,j1,j2,j3,j4,j5,j6]
  refine wpAnyG_done (by kernel_rfl) ?_ _
  obtain ⟨v1, hv1⟩ : ∃ x, v0.drew = x := ⟨_, rfl⟩
  have HBv1 : Hid (Below v0.heap.size v0 v1) := Lib.hid (by rw [← hv1]; exact (Below.refl _ _).drew)
  rw [hv1]
  have hzv1 := HBv1.out.size
  have Hv1 := Lib.hid (Hv0.out.below HBv1.out)
  have HUv1 : Hid (Upd b 0 (0 + 12) (fun k => k = g ∨ k ∈ blkOf ah) w v1) := Lib.hid (HUv0.out.below HBv1.out Hv0.out.lt)
  have qn_0 := kC HBv1.out q_l q_0
  have qn_1 := kC HBv1.out q_l q_1
  have qn_2 := kC HBv1.out q_l q_2
  have qn_3 := kC HBv1.out q_l q_3
  have qn_4 := kC HBv1.out q_l q_4
  have qn_l := Nat.lt_of_lt_of_le q_l HBv1.out.size
  clear q_0 q_1 q_2 q_3 q_4 q_l
  have HA2n := Lib.hid (HA2.out.keep HBv1.out)
  clear k_f k_l k_0 k_1 k_2 k_3 k_4 k_5 k_6 k_7 k_8 k_9 k_10 k_11 hv1 hSc1
  have k_0 := Hv1.out.e0
  have k_1 := Hv1.out.e1
  have k_2 := Hv1.out.e2
  have k_3 := Hv1.out.e3
  have k_4 := Hv1.out.e4
  have k_5 := Hv1.out.e5
  have k_6 := Hv1.out.e6
  have k_7 := Hv1.out.e7
  have k_8 := Hv1.out.e8
  have k_9 := Hv1.out.e9
  have k_10 := Hv1.out.e10
  have k_11 := Hv1.out.e11
  have k_f := Hv1.out.fz
  have k_l := Hv1.out.lt
  go_wp2_with fail
  go_loopw [7] (fun iv wi => ∃ i : Nat, i ≤ ln ∧ iv = .int .i64 i ∧ Hid (ScrR lo b 0 { s with look := (xs.take i).foldl lookN s.look } g ah v1 wi)) (fun iv _ => ln - (intOf iv).toNat)
  case atStart => exact ⟨0, Nat.zero_le _, rfl, Lib.hid (.mk Hv1.out Upd.refl)⟩
  case round =>
    obtain ⟨i, hi, rfl, HI⟩ := hrel
    have hln8 : ln ≤ 8 := by rw [← HLN.out]; exact HX8.out
    obtain ⟨g1, cc1, ah1, dh1, ha, hu, hg, hh⟩ := HI.out
    have HC := Lib.hid hu.ch
    have HX := Lib.hid ha
    have HU := Lib.hid hu
    have HG := Lib.hid hg
    have HH := Lib.hid hh
    have hzr := hu.size
    have hwq : ¬ (w.heap.size = b ∨ w.heap.size = g ∨ w.heap.size ∈ blkOf ah) := by
      rintro (h | h | h)
      · exact q_b h
      · have := HS.out.glt.2; omega
      · have := (HS.out.win.blk _ h).2; omega
    have y_3 : wr.cell? ⟨w.heap.size, 3, none⟩ = some (.slice aa ln ca) := (HC.out.cell (p := ⟨w.heap.size, 3, none⟩) qn_l hwq).trans qn_3
    have HAr : Hid (Sl intE 1 wr aa xs) := Lib.hid (Sl.ch HA2n.out HC.out (fun k hk => by
      have h := HNA.out k hk
      rintro (h1 | h1 | h1)
      · exact h.1 h1
      · exact h.2.1 h1
      · exact h.2.2 h1))
    clear ha hu hg hh
    by_cases hlt : i < ln
    · have hlt' : (i : Int) < (ln : Int) := by omega
      have hix : i < xs.length := by rw [HLN.out]; exact hlt
      obtain ⟨b1, o1, hae, hb1, hc1⟩ := HAr.out.at hix
      subst hae
      obtain ⟨x, hxx⟩ : ∃ x, xs[i] = x := ⟨_, rfl⟩
      have c1 := hc1 i hix 0 (by omega)
      rw [hxx] at c1
      simp only [intE, Nat.mul_one, Nat.add_zero, List.getElem?_cons_zero] at c1
      have hxb := HXR.out x (by rw [← hxx]; exact List.getElem_mem hix)
      have HTK : Hid ((xs.take (i + 1)).foldl lookN s.look = lookN ((xs.take i).foldl lookN s.look) (max 0 x)) := Lib.hid (by
        rw [List.take_succ_eq_append_getElem hix, List.foldl_append, hxx]
        exact (lookN_max _ _).symm)
      obtain ⟨m, hm⟩ : ∃ m, max 0 x = m := ⟨_, rfl⟩
      have hm2 : 0 ≤ m ∧ m ≤ 9999 := by omega
      rw [hm] at HTK
      clear hc1 hxx hix
      go_wp2_with fail
      refine (look_c lo b _ g1 cc1 ah1 dh1 _ m HX.out (looksOK HOK.out _) (by omega) hm2).mono ?_
      rintro e x1 ⟨rfl, hr⟩
      have HR := Lib.hid hr
      clear hr
      go_wp2_with fail
      go_roundw
      case rel =>
        refine ⟨i + 1, by omega, by go_num, Lib.hid ?_⟩
        rw [HTK.out]
        exact ScrR.trans HX.out HU.out HG.out HH.out HR.out
      case measure => simp [intOf]; omega
    · obtain rfl : i = ln := by omega
      have htk : xs.take i = xs := List.take_of_length_le (by rw [HLN.out]; exact Nat.le_refl _)
      have HTK := Lib.hid htk
      clear htk
      go_wp2_with fail
      first | refine bodyPost_end (v := .tuple #[]) (by simp [results, Tryz.results82]) rfl ?_ | refine bodyPost_ret (v := .tuple #[]) (by simp [results, Tryz.results82]) rfl ?_
      refine ⟨rfl, ?_⟩
      unfold csiS
      rw [if_neg (by decide), if_neg (by decide), if_neg (by decide), if_neg (by decide), if_neg (by decide), if_neg (by decide), if_neg (by decide), if_neg (by decide), if_neg (by decide), if_neg (by decide), if_neg (by decide), if_pos (by decide)]
      have h9 := HI.out
      rw [HTK.out] at h9
      exact ScrR.trans Hv1.out HUv1.out (.inl rfl) (fun _ h => .inl h) h9
theorem csi114_c (lo b : Nat) (s : Scr) (g cc : Nat) (ah : Option Addr) (dh : Nat) (w : World) (kd : Int) (xs : List Int) (aa : Option Addr) (ca : Nat) (tx : ByteArray) (h : ScrAt lo b 0 s g cc ah dh w) (ok : ScrOK s) (hlo : lo ≤ w.heap.size) (ha : Sl intE 1 w aa xs) (hna : ∀ k ∈ blkOf aa, k ≠ b ∧ k ≠ g ∧ k ∉ blkOf ah) (hx8 : xs.length ≤ 8) (hxr : ∀ x ∈ xs, -1 ≤ x ∧ x ≤ 9999) :
    Calls Tryz.prog 82 #[.pointer (some ⟨b, 0, none⟩), .agg #[.int .i64 kd, .int .i64 114, .bool false, .slice aa xs.length ca, .string tx]] w fun e w' => e = .returned (.tuple #[]) ∧ ScrR lo b 0 (csiS s 114 xs) g ah w w' := by
  have HS := Lib.hid h
  have HOK := Lib.hid ok
  have HA := Lib.hid ha
  have HNA := Lib.hid hna
  have HXR := Lib.hid hxr
  have HX8 := Lib.hid hx8
  have hw1 := ok.w1
  have hw2 := ok.w2
  have hh1 := ok.h1
  have hh2 := ok.h2
  have hx := ok.hx
  have hy := ok.hy
  have hcur := ok.cur
  have hcn := ok.cn
  have hlt := h.lt
  obtain ⟨n, hn⟩ : ∃ n, arg1 xs 0 = n := ⟨_, rfl⟩
  obtain ⟨A0, hA0⟩ : ∃ a, argA xs 0 1 = a := ⟨_, rfl⟩
  have hAb : -1 ≤ A0 ∧ A0 ≤ 9999 := by rw [← hA0]; exact argA_bd HXR.out (by omega) (by omega)
  have hm : max 1 A0 = (n : Int) := by rw [← hn, ← hA0]; unfold arg1; omega
  have hn1 : 1 ≤ n := by omega
  have hn2 : n ≤ 9999 := by omega
  have HN := Lib.hid hn
  have HA0 := Lib.hid hA0
  obtain ⟨p, hp⟩ : ∃ p, s.y * s.w = p := ⟨_, rfl⟩
  obtain ⟨mx, hmx⟩ : ∃ m, min s.x (s.w - 1) = m := ⟨_, rfl⟩
  obtain ⟨cr, hcr⟩ : ∃ c, curS s = c := ⟨_, rfl⟩
  obtain ⟨pn, hpn⟩ : ∃ q, (s.y + 1) * s.w = q := ⟨_, rfl⟩
  obtain ⟨nn, hnn⟩ : ∃ q, s.w * s.h = q := ⟨_, rfl⟩
  have hpi : (s.y : Int) * (s.w : Int) = (p : Int) := by rw [← hp]; exact (Int.natCast_mul _ _).symm
  have hpni : ((s.y : Int) + 1) * (s.w : Int) = (pn : Int) := by rw [← hpn]; exact (Int.natCast_mul (s.y + 1) s.w).symm
  have hnni : (s.w : Int) * (s.h : Int) = (nn : Int) := by rw [← hnn]; exact (Int.natCast_mul _ _).symm
  have hmi : min (s.x : Int) ((s.w : Int) - 1) = (mx : Int) := by omega
  have hcri : (p : Int) + (mx : Int) = (cr : Int) := by rw [← hcr, ← hp, ← hmx]; unfold curS; omega
  have hn240 : nn ≤ 240 := by rw [← hnn]; exact Nat.mul_le_mul hw2 hh2
  rw [hcr, hp, hpn, hnn] at hcur
  rw [hnn] at hcn
  obtain ⟨hc1, hc2, hc3⟩ := hcur
  have HCN := Lib.hid hcn
  have HP := Lib.hid hp
  have HMX := Lib.hid hmx
  have HCR := Lib.hid hcr
  have HPN := Lib.hid hpn
  have HNN := Lib.hid hnn
  have hwA : IntKind.i64.wrap ((s.w : Int) - 1) = (s.w : Int) - 1 := IntWalk.i64_in _ ⟨by omega, by omega⟩
  have hwB : IntKind.i64.wrap (p : Int) = (p : Int) := IntWalk.i64_in _ ⟨by omega, by omega⟩
  have hwC : IntKind.i64.wrap (cr : Int) = (cr : Int) := IntWalk.i64_in _ ⟨by omega, by omega⟩
  have hwD : IntKind.i64.wrap (pn : Int) = (pn : Int) := IntWalk.i64_in _ ⟨by omega, by omega⟩
  have hwE : IntKind.i64.wrap (nn : Int) = (nn : Int) := IntWalk.i64_in _ ⟨by omega, by omega⟩
  have hwF : IntKind.i64.wrap ((s.y : Int) + 1) = (s.y : Int) + 1 := IntWalk.i64_in _ ⟨by omega, by omega⟩
  have hwG : IntKind.i64.wrap ((cr : Int) + 1) = (cr : Int) + 1 := IntWalk.i64_in _ ⟨by omega, by omega⟩
  obtain ⟨ln, hln⟩ : ∃ l, xs.length = l := ⟨_, rfl⟩
  have HLN := Lib.hid hln
  have HCALL : ∀ (i : Nat) (d : Int) (W : World), i ≤ 7 → Sl intE 1 W aa xs → Calls Tryz.prog 117 #[.agg #[.int .i64 kd, .int .i64 114, .bool false, .slice aa ln ca, .string tx], .int .i64 i, .int .i64 d] W fun e w' => e = .returned (.int .i64 (argA xs i d)) ∧ Below W.heap.size W w' := fun i d W hi hW => by
    rw [← hln]
    exact l03ArgG_c kd 114 false tx xs aa ca i d W hW hi hx8
  rw [hln]
  clear h ok ha hna hxr hx8 hn hA0 hp hmx hcr hpn hnn hcn hln
  go_enter Tryz.func82, Tryz.ntmps82
  go_wp2_with fail
  refine (HCALL 0 1 _ (by omega) (HA.out.alloc _)).mono ?_
  rintro e v0 ⟨rfl, hb0⟩
  rw [HA0.out]
  have HB0 : Hid (Below w.heap.size w v0) := Lib.hid (((Below.refl w.heap.size w).alloc (Nat.le_refl _) _).trans (hb0.mono (by simp)))
  have hz0 := HB0.out.size
  have q_l : w.heap.size < v0.heap.size := by have := hb0.size; simp at this; omega
  have q_0 : v0.cell? ⟨w.heap.size, 0, none⟩ = some (.int .i64 kd) := kC hb0 (by simp) (by simp [go_sem])
  have q_1 : v0.cell? ⟨w.heap.size, 1, none⟩ = some (.int .i64 114) := kC hb0 (by simp) (by simp [go_sem])
  have q_2 : v0.cell? ⟨w.heap.size, 2, none⟩ = some (.bool false) := kC hb0 (by simp) (by simp [go_sem])
  have q_3 : v0.cell? ⟨w.heap.size, 3, none⟩ = some (.slice aa ln ca) := kC hb0 (by simp) (by simp [go_sem])
  have q_4 : v0.cell? ⟨w.heap.size, 4, none⟩ = some (.string tx) := kC hb0 (by simp) (by simp [go_sem])
  clear hb0
  have q_b : ¬ w.heap.size = b := by omega
  have HA_nb : ∀ k ∈ blkOf aa, ¬ k = b := fun k hk => (HNA.out k hk).1
  have Hv0 := Lib.hid (HS.out.below HB0.out)
  have HA2 := Lib.hid (HA.out.keep HB0.out)
  have HUv0 : Hid (Upd b 0 (0 + 12) (fun k => k = g ∨ k ∈ blkOf ah) w v0) := Lib.hid (Upd.refl'.below HB0.out HS.out.lt)
  have HA2_nb := HA_nb
  have k_0 := Hv0.out.e0
  have k_1 := Hv0.out.e1
  have k_2 := Hv0.out.e2
  have k_3 := Hv0.out.e3
  have k_4 := Hv0.out.e4
  have k_5 := Hv0.out.e5
  have k_6 := Hv0.out.e6
  have k_7 := Hv0.out.e7
  have k_8 := Hv0.out.e8
  have k_9 := Hv0.out.e9
  have k_10 := Hv0.out.e10
  have k_11 := Hv0.out.e11
  have k_f := Hv0.out.fz
  have k_l := Hv0.out.lt
  go_upto_region 4 with fail
  have hSc1 := And.intro k_0 (And.intro k_2 k_3)
  refine wp_region_G (fun w' => w'.cell? ⟨b, 0, none⟩ = some (.int .i64 (s.w : Int)) ∧ w'.cell? ⟨b, 2, none⟩ = some (.int .i64 (s.x : Int)) ∧ w'.cell? ⟨b, 3, none⟩ = some (.int .i64 (s.y : Int))) (fun i => false) (by kernel_rfl) hSc1 ?_
  refine tW ?_ 0 rfl ?_ ?_; rotate_left
  · intro w' hSw; go_simp; try rfl
  try simp only [Act.put,j1,j2,j3,j4,j5,j6]
  refine tW ?_ 1 rfl ?_ ?_; rotate_left
  · intro w' hSw; go_simp; try rfl
  try simp only [Act.put,j1,j2,j3,j4,j5,j6]
  refine tW ?_ 2 rfl ?_ ?_; rotate_left
  · intro w' hSw; go_simp; try rfl
  try simp only [Act.put,j1,j2,j3,j4,j5,j6]
  refine tL ?_ 3 rfl hSc1 ?_ ?_; rotate_left
  · intro w' hSw; obtain ⟨s0, s1, s2⟩ := hSw; go_simp; try rfl
  try simp only [Act.put,j1,j2,j3,j4,j5,j6]
  refine tW ?_ 4 rfl ?_ ?_; rotate_left
  · intro w' hSw; go_simp; try rfl
  try simp only [Act.put,j1,j2,j3,j4,j5,j6]
  refine tW ?_ 5 rfl ?_ ?_; rotate_left
  · intro w' hSw; go_simp; try rfl
  try simp only [Act.put,j1,j2,j3,j4,j5,j6]
  refine tW ?_ 6 rfl ?_ ?_; rotate_left
  · intro w' hSw; go_simp; try rfl
  try simp only [Act.put,j1,j2,j3,j4,j5,j6]
  refine tL ?_ 7 rfl hSc1 ?_ ?_; rotate_left
  · intro w' hSw; obtain ⟨s0, s1, s2⟩ := hSw; go_simp; try rfl
  try simp only [Act.put,j1,j2,j3,j4,j5,j6]
  refine tW ?_ 8 rfl ?_ ?_; rotate_left
  · intro w' hSw; go_simp; try rfl
  try simp only [Act.put,j1,j2,j3,j4,j5,j6]
  refine tW ?_ 9 rfl ?_ ?_; rotate_left
  · intro w' hSw; go_simp; try rfl
  try simp only [Act.put,j1,j2,j3,j4,j5,j6]
  refine tW ?_ 10 rfl ?_ ?_; rotate_left
  · intro w' hSw; go_simp; try rfl
  try simp only [Act.put,j1,j2,j3,j4,j5,j6]
  refine tW ?_ 11 rfl ?_ ?_; rotate_left
  · intro w' hSw; go_simp; try rfl
  try simp only [Act.put,j1,j2,j3,j4,j5,j6]
  refine tL ?_ 12 rfl hSc1 ?_ ?_; rotate_left
  · intro w' hSw; obtain ⟨s0, s1, s2⟩ := hSw; go_simp; try rfl
  try simp only [Act.put,j1,j2,j3,j4,j5,j6]
  refine tW ?_ 13 rfl ?_ ?_; rotate_left
  · intro w' hSw; go_simp; try rfl
  try simp only [Act.put,j1,j2,j3,j4,j5,j6]
  refine tW ?_ 14 rfl ?_ ?_; rotate_left
  · intro w' hSw; go_simp; try rfl
  try simp only [Act.put,j1,j2,j3,j4,j5,j6]
  refine tW ?_ 15 rfl ?_ ?_; rotate_left
  · intro w' hSw; go_simp; try rfl
  try simp only [Act.put,j1,j2,j3,j4,j5,j6]
  refine tL ?_ 16 rfl hSc1 ?_ ?_; rotate_left
  · intro w' hSw; obtain ⟨s0, s1, s2⟩ := hSw; go_simp; try rfl
  try simp only [Act.put,j1,j2,j3,j4,j5,j6]
  refine tW ?_ 17 rfl ?_ ?_; rotate_left
  · intro w' hSw; go_simp; try rfl
  try simp only [Act.put,j1,j2,j3,j4,j5,j6]
  refine tW ?_ 18 rfl ?_ ?_; rotate_left
  · intro w' hSw; go_simp; try rfl
  try simp only [Act.put,j1,j2,j3,j4,j5,j6]
  refine tW ?_ 19 rfl ?_ ?_; rotate_left
  · intro w' hSw; go_simp; try rfl
  try simp only [Act.put,j1,j2,j3,j4,j5,j6]
  refine tW ?_ 20 rfl ?_ ?_; rotate_left
  · intro w' hSw; go_simp; try rfl
  try simp only [Act.put,j1,j2,j3,j4,j5,j6]
  refine wpAnyG_done (by kernel_rfl) ?_ _
  obtain ⟨v1, hv1⟩ : ∃ x, v0.drew = x := ⟨_, rfl⟩
  have HBv1 : Hid (Below v0.heap.size v0 v1) := Lib.hid (by rw [← hv1]; exact (Below.refl _ _).drew)
  rw [hv1]
  have hzv1 := HBv1.out.size
  have Hv1 := Lib.hid (Hv0.out.below HBv1.out)
  have HUv1 : Hid (Upd b 0 (0 + 12) (fun k => k = g ∨ k ∈ blkOf ah) w v1) := Lib.hid (HUv0.out.below HBv1.out Hv0.out.lt)
  have qn_0 := kC HBv1.out q_l q_0
  have qn_1 := kC HBv1.out q_l q_1
  have qn_2 := kC HBv1.out q_l q_2
  have qn_3 := kC HBv1.out q_l q_3
  have qn_4 := kC HBv1.out q_l q_4
  have qn_l := Nat.lt_of_lt_of_le q_l HBv1.out.size
  clear q_0 q_1 q_2 q_3 q_4 q_l
  have HA2n := Lib.hid (HA2.out.keep HBv1.out)
  clear k_f k_l k_0 k_1 k_2 k_3 k_4 k_5 k_6 k_7 k_8 k_9 k_10 k_11 hv1 hSc1
  have k_0 := Hv1.out.e0
  have k_1 := Hv1.out.e1
  have k_2 := Hv1.out.e2
  have k_3 := Hv1.out.e3
  have k_4 := Hv1.out.e4
  have k_5 := Hv1.out.e5
  have k_6 := Hv1.out.e6
  have k_7 := Hv1.out.e7
  have k_8 := Hv1.out.e8
  have k_9 := Hv1.out.e9
  have k_10 := Hv1.out.e10
  have k_11 := Hv1.out.e11
  have k_f := Hv1.out.fz
  have k_l := Hv1.out.lt
  go_wp2_with fail
  refine (HCALL 0 1 _ (by omega) HA2n.out).mono ?_
  rw [HA0.out]
  rintro e v2 ⟨rfl, hbv2⟩
  have HBv2 := Lib.hid hbv2
  have hzv2 := HBv2.out.size
  have Hv2 := Lib.hid (Hv1.out.below HBv2.out)
  have HUv2 : Hid (Upd b 0 (0 + 12) (fun k => k = g ∨ k ∈ blkOf ah) w v2) := Lib.hid (HUv1.out.below HBv2.out Hv1.out.lt)
  have qnn_0 := kC HBv2.out qn_l qn_0
  have qnn_1 := kC HBv2.out qn_l qn_1
  have qnn_2 := kC HBv2.out qn_l qn_2
  have qnn_3 := kC HBv2.out qn_l qn_3
  have qnn_4 := kC HBv2.out qn_l qn_4
  have qnn_l := Nat.lt_of_lt_of_le qn_l HBv2.out.size
  clear qn_0 qn_1 qn_2 qn_3 qn_4 qn_l
  have HA2nn := Lib.hid (HA2n.out.keep HBv2.out)
  clear k_f k_l k_0 k_1 k_2 k_3 k_4 k_5 k_6 k_7 k_8 k_9 k_10 k_11 hbv2
  have k_0 := Hv2.out.e0
  have k_1 := Hv2.out.e1
  have k_2 := Hv2.out.e2
  have k_3 := Hv2.out.e3
  have k_4 := Hv2.out.e4
  have k_5 := Hv2.out.e5
  have k_6 := Hv2.out.e6
  have k_7 := Hv2.out.e7
  have k_8 := Hv2.out.e8
  have k_9 := Hv2.out.e9
  have k_10 := Hv2.out.e10
  have k_11 := Hv2.out.e11
  have k_f := Hv2.out.fz
  have k_l := Hv2.out.lt
  have hwK : IntKind.i64.wrap ((n : Int) - 1) = (n : Int) - 1 := IntWalk.i64_in _ ⟨by omega, by omega⟩
  obtain ⟨A1, hA1⟩ : ∃ a, argA xs 1 (s.h : Int) = a := ⟨_, rfl⟩
  have hA1b : -1 ≤ A1 ∧ A1 ≤ 9999 := by rw [← hA1]; exact argA_bd HXR.out (by omega) (by omega)
  have hA1c : 0 ≤ A1 := by rw [← hA1]; unfold argA; split <;> (try split) <;> omega
  obtain ⟨l1, hl1⟩ : ∃ l, min s.h A1.toNat = l := ⟨_, rfl⟩
  have hm1 : min (s.h : Int) A1 = (l1 : Int) := by omega
  have hl10 : l1 ≤ 10 := by omega
  have hwL : IntKind.i64.wrap ((l1 : Int) - 1) = (l1 : Int) - 1 := IntWalk.i64_in _ ⟨by omega, by omega⟩
  have HA1 := Lib.hid hA1
  have HL1 := Lib.hid hl1
  clear hA1 hl1
  go_upto_region 53 with fail
  have hSc2 := And.intro k_1 (And.intro qnn_0 (And.intro qnn_1 (And.intro qnn_2 (And.intro qnn_3 qnn_4))))
  refine wp_region_G (fun w' => w'.cell? ⟨b, 1, none⟩ = some (.int .i64 (s.h : Int)) ∧ w'.cell? ⟨w.heap.size, 0, none⟩ = some (.int .i64 kd) ∧ w'.cell? ⟨w.heap.size, 1, none⟩ = some (.int .i64 114) ∧ w'.cell? ⟨w.heap.size, 2, none⟩ = some (.bool false) ∧ w'.cell? ⟨w.heap.size, 3, none⟩ = some (.slice aa ln ca) ∧ w'.cell? ⟨w.heap.size, 4, none⟩ = some (.string tx)) (fun i => false) (by kernel_rfl) hSc2 ?_
  refine tW ?_ 0 rfl ?_ ?_; rotate_left
  · intro w' hSw; go_simp; try rfl
  try simp only [Act.put,j1,j2,j3,j4,j5,j6]
  refine tW ?_ 1 rfl ?_ ?_; rotate_left
  · intro w' hSw; go_simp; try rfl
  try simp only [Act.put,j1,j2,j3,j4,j5,j6]
  refine tW ?_ 2 rfl ?_ ?_; rotate_left
  · intro w' hSw; go_simp; try rfl
  try simp only [Act.put,j1,j2,j3,j4,j5,j6]
  refine tL ?_ 3 rfl hSc2 ?_ ?_; rotate_left
  · intro w' hSw; obtain ⟨s0, s1, s2, s3, s4, s5⟩ := hSw; go_simp; try rfl
  try simp only [Act.put,j1,j2,j3,j4,j5,j6]
  refine tL ?_ 4 rfl hSc2 ?_ ?_; rotate_left
  · intro w' hSw; obtain ⟨s0, s1, s2, s3, s4, s5⟩ := hSw; go_simp; try rfl
  try simp only [Act.put,j1,j2,j3,j4,j5,j6]
  refine tW ?_ 5 rfl ?_ ?_; rotate_left
  · intro w' hSw; go_simp; try rfl
  try simp only [Act.put,j1,j2,j3,j4,j5,j6]
  refine tW ?_ 6 rfl ?_ ?_; rotate_left
  · intro w' hSw; go_simp; try rfl
  try simp only [Act.put,j1,j2,j3,j4,j5,j6]
  refine tW ?_ 7 rfl ?_ ?_; rotate_left
  · intro w' hSw; go_simp; try rfl
  try simp only [Act.put,j1,j2,j3,j4,j5,j6]
  refine tL ?_ 8 rfl hSc2 ?_ ?_; rotate_left
  · intro w' hSw; obtain ⟨s0, s1, s2, s3, s4, s5⟩ := hSw; go_simp; try rfl
  try simp only [Act.put,j1,j2,j3,j4,j5,j6]
  refine wpAnyG_one (i := 9) (by kernel_rfl) rfl hSc2 (fun K' hK => ?_)
  simp only [j1,j2,j3]
  go_simp
  refine (HCALL 1 s.h _ (by omega) (HA2nn.out.keep ((Below.refl _ _).drew))).mono ?_
  rintro e x1 ⟨rfl, hb1⟩
  rw [HA1.out]
  have HB1 : Hid (Below v2.heap.size v2 x1) := Lib.hid (((Below.refl _ _).drew).trans hb1)
  have HX1 := Lib.hid (Hv2.out.below HB1.out)
  have HU1 : Hid (Upd b 0 (0 + 12) (fun k => k = g ∨ k ∈ blkOf ah) w x1) := Lib.hid (HUv2.out.below HB1.out Hv2.out.lt)
  have hSx : x1.cell? ⟨b, 1, none⟩ = some (.int .i64 (s.h : Int)) ∧ x1.cell? ⟨w.heap.size, 0, none⟩ = some (.int .i64 kd) ∧ x1.cell? ⟨w.heap.size, 1, none⟩ = some (.int .i64 114) ∧ x1.cell? ⟨w.heap.size, 2, none⟩ = some (.bool false) ∧ x1.cell? ⟨w.heap.size, 3, none⟩ = some (.slice aa ln ca) ∧ x1.cell? ⟨w.heap.size, 4, none⟩ = some (.string tx) := ⟨HX1.out.c1, (HB1.out.cell (p := ⟨w.heap.size, 0, none⟩) qnn_l).trans qnn_0, (HB1.out.cell (p := ⟨w.heap.size, 1, none⟩) qnn_l).trans qnn_1, (HB1.out.cell (p := ⟨w.heap.size, 2, none⟩) qnn_l).trans qnn_2, (HB1.out.cell (p := ⟨w.heap.size, 3, none⟩) qnn_l).trans qnn_3, (HB1.out.cell (p := ⟨w.heap.size, 4, none⟩) qnn_l).trans qnn_4⟩
  clear hb1
  have e_2 := HX1.out.c2
  have e_3 := HX1.out.c3
  have e_5 := HX1.out.c5
  have e_6 := HX1.out.c6
  have e_f := HX1.out.fz
  have e_l := HX1.out.lt
  refine hK.out _ _ (Or.inr hSx) ?_
  clear hK K'
  try simp only [Act.put,j1,j2,j3,j4,j5,j6]
  refine tW ?_ 10 rfl ?_ ?_; rotate_left
  · intro w' hSw; go_simp; try rfl
  try simp only [Act.put,j1,j2,j3,j4,j5,j6]
  refine tW ?_ 11 rfl ?_ ?_; rotate_left
  · intro w' hSw; go_simp; try rfl
  try simp only [Act.put,j1,j2,j3,j4,j5,j6]
  refine tW ?_ 12 rfl ?_ ?_; rotate_left
  · intro w' hSw; go_simp; try rfl
  try simp only [Act.put,j1,j2,j3,j4,j5,j6]
  refine wpAnyG_done (by kernel_rfl) ?_ _
  by_cases hnl : n < l1
  · have hnl' : (n : Int) - 1 < (l1 : Int) - 1 := by omega
    go_wp2_with fail
    first | refine bodyPost_end (v := .tuple #[]) (by simp [results, Tryz.results82]) rfl ?_ | refine bodyPost_ret (v := .tuple #[]) (by simp [results, Tryz.results82]) rfl ?_
    refine ⟨rfl, ?_⟩
    unfold csiS
    rw [if_neg (by decide), if_neg (by decide), if_neg (by decide), if_neg (by decide), if_neg (by decide), if_neg (by decide), if_neg (by decide), if_neg (by decide), if_neg (by decide), if_neg (by decide), if_neg (by decide), if_neg (by decide), if_pos (by decide)]
    rw [HN.out, HA1.out, HL1.out, if_pos hnl]
    refine ScrR.mk (cc := cc) (dh := dh) ?_ ?_
    · repeat (with_reducible refine ScrAt.drew ?_)
      exact (((HX1.out.setv5 (n - 1) (by omega)).setv6 (l1 - 1) (by omega)).setv2 0 rfl).setv3 0 rfl
    · repeat (with_reducible refine Upd.drew ?_)
      exact (((HU1.out.set5 _).set6 _).set2 _).set3 _
  · have hnl' : ¬ (n : Int) - 1 < (l1 : Int) - 1 := by omega
    go_wp2_with fail
    first | refine bodyPost_end (v := .tuple #[]) (by simp [results, Tryz.results82]) rfl ?_ | refine bodyPost_ret (v := .tuple #[]) (by simp [results, Tryz.results82]) rfl ?_
    refine ⟨rfl, ?_⟩
    unfold csiS
    rw [if_neg (by decide), if_neg (by decide), if_neg (by decide), if_neg (by decide), if_neg (by decide), if_neg (by decide), if_neg (by decide), if_neg (by decide), if_neg (by decide), if_neg (by decide), if_neg (by decide), if_neg (by decide), if_pos (by decide)]
    rw [HN.out, HA1.out, HL1.out, if_neg hnl]
    exact .mk HX1.out HU1.out
theorem csix_c (lo b : Nat) (s : Scr) (g cc : Nat) (ah : Option Addr) (dh : Nat) (w : World) (kd : Int) (xs : List Int) (aa : Option Addr) (ca : Nat) (tx : ByteArray) (c : Int) (hc : ∀ v ∈ [65, 66, 67, 68, 72, 102, 74, 75, 76, 77, 83, 84, 109, 114], c ≠ (v : Int)) (h : ScrAt lo b 0 s g cc ah dh w) (ok : ScrOK s) (hlo : lo ≤ w.heap.size) (ha : Sl intE 1 w aa xs) (hna : ∀ k ∈ blkOf aa, k ≠ b ∧ k ≠ g ∧ k ∉ blkOf ah) (hx8 : xs.length ≤ 8) (hxr : ∀ x ∈ xs, -1 ≤ x ∧ x ≤ 9999) :
    Calls Tryz.prog 82 #[.pointer (some ⟨b, 0, none⟩), .agg #[.int .i64 kd, .int .i64 c, .bool false, .slice aa xs.length ca, .string tx]] w fun e w' => e = .returned (.tuple #[]) ∧ ScrR lo b 0 (csiS s c xs) g ah w w' := by
  have HS := Lib.hid h
  have HOK := Lib.hid ok
  have HA := Lib.hid ha
  have HNA := Lib.hid hna
  have HXR := Lib.hid hxr
  have HX8 := Lib.hid hx8
  have hw1 := ok.w1
  have hw2 := ok.w2
  have hh1 := ok.h1
  have hh2 := ok.h2
  have hx := ok.hx
  have hy := ok.hy
  have hcur := ok.cur
  have hcn := ok.cn
  have hlt := h.lt
  obtain ⟨n, hn⟩ : ∃ n, arg1 xs 0 = n := ⟨_, rfl⟩
  obtain ⟨A0, hA0⟩ : ∃ a, argA xs 0 1 = a := ⟨_, rfl⟩
  have hAb : -1 ≤ A0 ∧ A0 ≤ 9999 := by rw [← hA0]; exact argA_bd HXR.out (by omega) (by omega)
  have hm : max 1 A0 = (n : Int) := by rw [← hn, ← hA0]; unfold arg1; omega
  have hn1 : 1 ≤ n := by omega
  have hn2 : n ≤ 9999 := by omega
  have HN := Lib.hid hn
  have HA0 := Lib.hid hA0
  obtain ⟨p, hp⟩ : ∃ p, s.y * s.w = p := ⟨_, rfl⟩
  obtain ⟨mx, hmx⟩ : ∃ m, min s.x (s.w - 1) = m := ⟨_, rfl⟩
  obtain ⟨cr, hcr⟩ : ∃ c, curS s = c := ⟨_, rfl⟩
  obtain ⟨pn, hpn⟩ : ∃ q, (s.y + 1) * s.w = q := ⟨_, rfl⟩
  obtain ⟨nn, hnn⟩ : ∃ q, s.w * s.h = q := ⟨_, rfl⟩
  have hpi : (s.y : Int) * (s.w : Int) = (p : Int) := by rw [← hp]; exact (Int.natCast_mul _ _).symm
  have hpni : ((s.y : Int) + 1) * (s.w : Int) = (pn : Int) := by rw [← hpn]; exact (Int.natCast_mul (s.y + 1) s.w).symm
  have hnni : (s.w : Int) * (s.h : Int) = (nn : Int) := by rw [← hnn]; exact (Int.natCast_mul _ _).symm
  have hmi : min (s.x : Int) ((s.w : Int) - 1) = (mx : Int) := by omega
  have hcri : (p : Int) + (mx : Int) = (cr : Int) := by rw [← hcr, ← hp, ← hmx]; unfold curS; omega
  have hn240 : nn ≤ 240 := by rw [← hnn]; exact Nat.mul_le_mul hw2 hh2
  rw [hcr, hp, hpn, hnn] at hcur
  rw [hnn] at hcn
  obtain ⟨hc1, hc2, hc3⟩ := hcur
  have HCN := Lib.hid hcn
  have HP := Lib.hid hp
  have HMX := Lib.hid hmx
  have HCR := Lib.hid hcr
  have HPN := Lib.hid hpn
  have HNN := Lib.hid hnn
  have hwA : IntKind.i64.wrap ((s.w : Int) - 1) = (s.w : Int) - 1 := IntWalk.i64_in _ ⟨by omega, by omega⟩
  have hwB : IntKind.i64.wrap (p : Int) = (p : Int) := IntWalk.i64_in _ ⟨by omega, by omega⟩
  have hwC : IntKind.i64.wrap (cr : Int) = (cr : Int) := IntWalk.i64_in _ ⟨by omega, by omega⟩
  have hwD : IntKind.i64.wrap (pn : Int) = (pn : Int) := IntWalk.i64_in _ ⟨by omega, by omega⟩
  have hwE : IntKind.i64.wrap (nn : Int) = (nn : Int) := IntWalk.i64_in _ ⟨by omega, by omega⟩
  have hwF : IntKind.i64.wrap ((s.y : Int) + 1) = (s.y : Int) + 1 := IntWalk.i64_in _ ⟨by omega, by omega⟩
  have hwG : IntKind.i64.wrap ((cr : Int) + 1) = (cr : Int) + 1 := IntWalk.i64_in _ ⟨by omega, by omega⟩
  obtain ⟨ln, hln⟩ : ∃ l, xs.length = l := ⟨_, rfl⟩
  have HLN := Lib.hid hln
  have HCALL : ∀ (i : Nat) (d : Int) (W : World), i ≤ 7 → Sl intE 1 W aa xs → Calls Tryz.prog 117 #[.agg #[.int .i64 kd, .int .i64 c, .bool false, .slice aa ln ca, .string tx], .int .i64 i, .int .i64 d] W fun e w' => e = .returned (.int .i64 (argA xs i d)) ∧ Below W.heap.size W w' := fun i d W hi hW => by
    rw [← hln]
    exact l03ArgG_c kd c false tx xs aa ca i d W hW hi hx8
  rw [hln]
  clear h ok ha hna hxr hx8 hn hA0 hp hmx hcr hpn hnn hcn hln
  go_enter Tryz.func82, Tryz.ntmps82
  go_wp2_with fail
  refine (HCALL 0 1 _ (by omega) (HA.out.alloc _)).mono ?_
  rintro e v0 ⟨rfl, hb0⟩
  rw [HA0.out]
  have HB0 : Hid (Below w.heap.size w v0) := Lib.hid (((Below.refl w.heap.size w).alloc (Nat.le_refl _) _).trans (hb0.mono (by simp)))
  have hz0 := HB0.out.size
  have q_l : w.heap.size < v0.heap.size := by have := hb0.size; simp at this; omega
  have q_0 : v0.cell? ⟨w.heap.size, 0, none⟩ = some (.int .i64 kd) := kC hb0 (by simp) (by simp [go_sem])
  have q_1 : v0.cell? ⟨w.heap.size, 1, none⟩ = some (.int .i64 c) := kC hb0 (by simp) (by simp [go_sem])
  have q_2 : v0.cell? ⟨w.heap.size, 2, none⟩ = some (.bool false) := kC hb0 (by simp) (by simp [go_sem])
  have q_3 : v0.cell? ⟨w.heap.size, 3, none⟩ = some (.slice aa ln ca) := kC hb0 (by simp) (by simp [go_sem])
  have q_4 : v0.cell? ⟨w.heap.size, 4, none⟩ = some (.string tx) := kC hb0 (by simp) (by simp [go_sem])
  clear hb0
  have q_b : ¬ w.heap.size = b := by omega
  have HA_nb : ∀ k ∈ blkOf aa, ¬ k = b := fun k hk => (HNA.out k hk).1
  have Hv0 := Lib.hid (HS.out.below HB0.out)
  have HA2 := Lib.hid (HA.out.keep HB0.out)
  have HUv0 : Hid (Upd b 0 (0 + 12) (fun k => k = g ∨ k ∈ blkOf ah) w v0) := Lib.hid (Upd.refl'.below HB0.out HS.out.lt)
  have HA2_nb := HA_nb
  have k_0 := Hv0.out.e0
  have k_1 := Hv0.out.e1
  have k_2 := Hv0.out.e2
  have k_3 := Hv0.out.e3
  have k_4 := Hv0.out.e4
  have k_5 := Hv0.out.e5
  have k_6 := Hv0.out.e6
  have k_7 := Hv0.out.e7
  have k_8 := Hv0.out.e8
  have k_9 := Hv0.out.e9
  have k_10 := Hv0.out.e10
  have k_11 := Hv0.out.e11
  have k_f := Hv0.out.fz
  have k_l := Hv0.out.lt
  go_upto_region 4 with fail
  have hSc1 := And.intro k_0 (And.intro k_2 k_3)
  refine wp_region_G (fun w' => w'.cell? ⟨b, 0, none⟩ = some (.int .i64 (s.w : Int)) ∧ w'.cell? ⟨b, 2, none⟩ = some (.int .i64 (s.x : Int)) ∧ w'.cell? ⟨b, 3, none⟩ = some (.int .i64 (s.y : Int))) (fun i => false) (by kernel_rfl) hSc1 ?_
  refine tW ?_ 0 rfl ?_ ?_; rotate_left
  · intro w' hSw; go_simp; try rfl
  try simp only [Act.put,j1,j2,j3,j4,j5,j6]
  refine tW ?_ 1 rfl ?_ ?_; rotate_left
  · intro w' hSw; go_simp; try rfl
  try simp only [Act.put,j1,j2,j3,j4,j5,j6]
  refine tW ?_ 2 rfl ?_ ?_; rotate_left
  · intro w' hSw; go_simp; try rfl
  try simp only [Act.put,j1,j2,j3,j4,j5,j6]
  refine tL ?_ 3 rfl hSc1 ?_ ?_; rotate_left
  · intro w' hSw; obtain ⟨s0, s1, s2⟩ := hSw; go_simp; try rfl
  try simp only [Act.put,j1,j2,j3,j4,j5,j6]
  refine tW ?_ 4 rfl ?_ ?_; rotate_left
  · intro w' hSw; go_simp; try rfl
  try simp only [Act.put,j1,j2,j3,j4,j5,j6]
  refine tW ?_ 5 rfl ?_ ?_; rotate_left
  · intro w' hSw; go_simp; try rfl
  try simp only [Act.put,j1,j2,j3,j4,j5,j6]
  refine tW ?_ 6 rfl ?_ ?_; rotate_left
  · intro w' hSw; go_simp; try rfl
  try simp only [Act.put,j1,j2,j3,j4,j5,j6]
  refine tL ?_ 7 rfl hSc1 ?_ ?_; rotate_left
  · intro w' hSw; obtain ⟨s0, s1, s2⟩ := hSw; go_simp; try rfl
  try simp only [Act.put,j1,j2,j3,j4,j5,j6]
  refine tW ?_ 8 rfl ?_ ?_; rotate_left
  · intro w' hSw; go_simp; try rfl
  try simp only [Act.put,j1,j2,j3,j4,j5,j6]
  refine tW ?_ 9 rfl ?_ ?_; rotate_left
  · intro w' hSw; go_simp; try rfl
  try simp only [Act.put,j1,j2,j3,j4,j5,j6]
  refine tW ?_ 10 rfl ?_ ?_; rotate_left
  · intro w' hSw; go_simp; try rfl
  try simp only [Act.put,j1,j2,j3,j4,j5,j6]
  refine tW ?_ 11 rfl ?_ ?_; rotate_left
  · intro w' hSw; go_simp; try rfl
  try simp only [Act.put,j1,j2,j3,j4,j5,j6]
  refine tL ?_ 12 rfl hSc1 ?_ ?_; rotate_left
  · intro w' hSw; obtain ⟨s0, s1, s2⟩ := hSw; go_simp; try rfl
  try simp only [Act.put,j1,j2,j3,j4,j5,j6]
  refine tW ?_ 13 rfl ?_ ?_; rotate_left
  · intro w' hSw; go_simp; try rfl
  try simp only [Act.put,j1,j2,j3,j4,j5,j6]
  refine tW ?_ 14 rfl ?_ ?_; rotate_left
  · intro w' hSw; go_simp; try rfl
  try simp only [Act.put,j1,j2,j3,j4,j5,j6]
  refine tW ?_ 15 rfl ?_ ?_; rotate_left
  · intro w' hSw; go_simp; try rfl
  try simp only [Act.put,j1,j2,j3,j4,j5,j6]
  refine tL ?_ 16 rfl hSc1 ?_ ?_; rotate_left
  · intro w' hSw; obtain ⟨s0, s1, s2⟩ := hSw; go_simp; try rfl
  try simp only [Act.put,j1,j2,j3,j4,j5,j6]
  refine tW ?_ 17 rfl ?_ ?_; rotate_left
  · intro w' hSw; go_simp; try rfl
  try simp only [Act.put,j1,j2,j3,j4,j5,j6]
  refine tW ?_ 18 rfl ?_ ?_; rotate_left
  · intro w' hSw; go_simp; try rfl
  try simp only [Act.put,j1,j2,j3,j4,j5,j6]
  refine tW ?_ 19 rfl ?_ ?_; rotate_left
  · intro w' hSw; go_simp; try rfl
  try simp only [Act.put,j1,j2,j3,j4,j5,j6]
  refine tW ?_ 20 rfl ?_ ?_; rotate_left
  · intro w' hSw; go_simp; try rfl
  try simp only [Act.put,j1,j2,j3,j4,j5,j6]
  refine wpAnyG_done (by kernel_rfl) ?_ _
  obtain ⟨v1, hv1⟩ : ∃ x, v0.drew = x := ⟨_, rfl⟩
  have HBv1 : Hid (Below v0.heap.size v0 v1) := Lib.hid (by rw [← hv1]; exact (Below.refl _ _).drew)
  rw [hv1]
  have hzv1 := HBv1.out.size
  have Hv1 := Lib.hid (Hv0.out.below HBv1.out)
  have HUv1 : Hid (Upd b 0 (0 + 12) (fun k => k = g ∨ k ∈ blkOf ah) w v1) := Lib.hid (HUv0.out.below HBv1.out Hv0.out.lt)
  have qn_0 := kC HBv1.out q_l q_0
  have qn_1 := kC HBv1.out q_l q_1
  have qn_2 := kC HBv1.out q_l q_2
  have qn_3 := kC HBv1.out q_l q_3
  have qn_4 := kC HBv1.out q_l q_4
  have qn_l := Nat.lt_of_lt_of_le q_l HBv1.out.size
  clear q_0 q_1 q_2 q_3 q_4 q_l
  have HA2n := Lib.hid (HA2.out.keep HBv1.out)
  clear k_f k_l k_0 k_1 k_2 k_3 k_4 k_5 k_6 k_7 k_8 k_9 k_10 k_11 hv1 hSc1
  have k_0 := Hv1.out.e0
  have k_1 := Hv1.out.e1
  have k_2 := Hv1.out.e2
  have k_3 := Hv1.out.e3
  have k_4 := Hv1.out.e4
  have k_5 := Hv1.out.e5
  have k_6 := Hv1.out.e6
  have k_7 := Hv1.out.e7
  have k_8 := Hv1.out.e8
  have k_9 := Hv1.out.e9
  have k_10 := Hv1.out.e10
  have k_11 := Hv1.out.e11
  have k_f := Hv1.out.fz
  have k_l := Hv1.out.lt
  have r65 : (c == 65) = false := beq_eq_false_iff_ne.2 (hc 65 (by decide))
  have r66 : (c == 66) = false := beq_eq_false_iff_ne.2 (hc 66 (by decide))
  have r67 : (c == 67) = false := beq_eq_false_iff_ne.2 (hc 67 (by decide))
  have r68 : (c == 68) = false := beq_eq_false_iff_ne.2 (hc 68 (by decide))
  have r72 : (c == 72) = false := beq_eq_false_iff_ne.2 (hc 72 (by decide))
  have r102 : (c == 102) = false := beq_eq_false_iff_ne.2 (hc 102 (by decide))
  have r74 : (c == 74) = false := beq_eq_false_iff_ne.2 (hc 74 (by decide))
  have r75 : (c == 75) = false := beq_eq_false_iff_ne.2 (hc 75 (by decide))
  have r76 : (c == 76) = false := beq_eq_false_iff_ne.2 (hc 76 (by decide))
  have r77 : (c == 77) = false := beq_eq_false_iff_ne.2 (hc 77 (by decide))
  have r83 : (c == 83) = false := beq_eq_false_iff_ne.2 (hc 83 (by decide))
  have r84 : (c == 84) = false := beq_eq_false_iff_ne.2 (hc 84 (by decide))
  have r109 : (c == 109) = false := beq_eq_false_iff_ne.2 (hc 109 (by decide))
  have r114 : (c == 114) = false := beq_eq_false_iff_ne.2 (hc 114 (by decide))
  go_wp2_with fail
  first | refine bodyPost_end (v := .tuple #[]) (by simp [results, Tryz.results82]) rfl ?_ | refine bodyPost_ret (v := .tuple #[]) (by simp [results, Tryz.results82]) rfl ?_
  refine ⟨rfl, ?_⟩
  unfold csiS
  rw [if_neg (hc 65 (by decide)), if_neg (hc 66 (by decide)), if_neg (hc 67 (by decide)), if_neg (hc 68 (by decide)), if_neg (fun h => h.elim (hc 72 (by decide)) (hc 102 (by decide))), if_neg (hc 74 (by decide)), if_neg (hc 75 (by decide)), if_neg (hc 76 (by decide)), if_neg (hc 77 (by decide)), if_neg (hc 83 (by decide)), if_neg (hc 84 (by decide)), if_neg (hc 109 (by decide)), if_neg (hc 114 (by decide))]
  exact .mk Hv1.out HUv1.out
end
section
open Go.RowKit
theorem csiP_c (lo b : Nat) (s : Scr) (g cc : Nat) (ah : Option Addr) (dh : Nat) (w : World) (kd c : Int) (xs : List Int) (aa : Option Addr) (ca : Nat) (tx : ByteArray) (h : ScrAt lo b 0 s g cc ah dh w) :
    Calls Tryz.prog 82 #[.pointer (some ⟨b, 0, none⟩), .agg #[.int .i64 kd, .int .i64 c, .bool true, .slice aa xs.length ca, .string tx]] w fun e w' => e = .returned (.tuple #[]) ∧ ScrR lo b 0 s g ah w w' := by
  have HS := Lib.hid h
  obtain ⟨ln, hln⟩ : ∃ l, xs.length = l := ⟨_, rfl⟩
  rw [hln]
  clear h hln
  go_enter Tryz.func82, Tryz.ntmps82
  go_wp2_with fail
  refine bodyPost_ret (v := .tuple #[]) (by simp [results, Tryz.results82]) rfl ?_
  exact ⟨rfl, .mk (HS.out.alloc _) (Upd.refl'.below ((Below.refl _ _).alloc (Nat.le_refl _) _) HS.out.lt)⟩
theorem scsi_c (lo b : Nat) (s : Scr) (g cc : Nat) (ah : Option Addr) (dh : Nat) (w : World) (kd c : Int) (pv : Bool) (xs : List Int) (aa : Option Addr) (ca : Nat) (tx : ByteArray) (h : ScrAt lo b 0 s g cc ah dh w) (ok : ScrOK s) (hlo : lo ≤ w.heap.size) (ha : Sl intE 1 w aa xs) (hna : ∀ k ∈ blkOf aa, k ≠ b ∧ k ≠ g ∧ k ∉ blkOf ah) (hx8 : xs.length ≤ 8) (hxr : ∀ x ∈ xs, -1 ≤ x ∧ x ≤ 9999) :
    Calls Tryz.prog 82 #[.pointer (some ⟨b, 0, none⟩), .agg #[.int .i64 kd, .int .i64 c, .bool pv, .slice aa xs.length ca, .string tx]] w fun e w' => e = .returned (.tuple #[]) ∧ ScrR lo b 0 (if pv = true then s else csiS s c xs) g ah w w' := by
  cases pv with
  | true => exact csiP_c lo b s g cc ah dh w kd c xs aa ca tx h
  | false =>
    rw [if_neg (by decide)]
    by_cases h65 : c = 65
    · subst h65; exact csi65_c lo b s g cc ah dh w kd xs aa ca tx h ok hlo ha hna hx8 hxr
    by_cases h66 : c = 66
    · subst h66; exact csi66_c lo b s g cc ah dh w kd xs aa ca tx h ok hlo ha hna hx8 hxr
    by_cases h67 : c = 67
    · subst h67; exact csi67_c lo b s g cc ah dh w kd xs aa ca tx h ok hlo ha hna hx8 hxr
    by_cases h68 : c = 68
    · subst h68; exact csi68_c lo b s g cc ah dh w kd xs aa ca tx h ok hlo ha hna hx8 hxr
    by_cases h72 : c = 72
    · subst h72; exact csi72_c lo b s g cc ah dh w kd xs aa ca tx h ok hlo ha hna hx8 hxr
    by_cases h102 : c = 102
    · subst h102; exact csi102_c lo b s g cc ah dh w kd xs aa ca tx h ok hlo ha hna hx8 hxr
    by_cases h74 : c = 74
    · subst h74; exact csi74_c lo b s g cc ah dh w kd xs aa ca tx h ok hlo ha hna hx8 hxr
    by_cases h75 : c = 75
    · subst h75; exact csi75_c lo b s g cc ah dh w kd xs aa ca tx h ok hlo ha hna hx8 hxr
    by_cases h76 : c = 76
    · subst h76; exact csi76_c lo b s g cc ah dh w kd xs aa ca tx h ok hlo ha hna hx8 hxr
    by_cases h77 : c = 77
    · subst h77; exact csi77_c lo b s g cc ah dh w kd xs aa ca tx h ok hlo ha hna hx8 hxr
    by_cases h83 : c = 83
    · subst h83; exact csi83_c lo b s g cc ah dh w kd xs aa ca tx h ok hlo ha hna hx8 hxr
    by_cases h84 : c = 84
    · subst h84; exact csi84_c lo b s g cc ah dh w kd xs aa ca tx h ok hlo ha hna hx8 hxr
    by_cases h109 : c = 109
    · subst h109; exact csi109_c lo b s g cc ah dh w kd xs aa ca tx h ok hlo ha hna hx8 hxr
    by_cases h114 : c = 114
    · subst h114; exact csi114_c lo b s g cc ah dh w kd xs aa ca tx h ok hlo ha hna hx8 hxr
    refine csix_c lo b s g cc ah dh w kd xs aa ca tx c (fun v hv => ?_) h ok hlo ha hna hx8 hxr
    simp only [List.mem_cons, List.not_mem_nil, or_false] at hv
    rcases hv with rfl | rfl | rfl | rfl | rfl | rfl | rfl | rfl | rfl | rfl | rfl | rfl | rfl | rfl <;> assumption
theorem AcOK.xs4 {n : Int} {pv : Bool} {xs : List Int} {tx : ByteArray} (h : AcOK ⟨4, n, pv, xs, tx⟩) : xs.length ≤ 8 ∧ ∀ x ∈ xs, -1 ≤ x ∧ x ≤ 9999 := by
  rcases h with ⟨_, _, h, _⟩ | ⟨_, h, _⟩
  · simp only [argsB, Bool.and_eq_true, decide_eq_true_eq, List.all_eq_true] at h
    exact ⟨h.1.2, h.2⟩
  · simp only at h
    subst h
    exact ⟨by decide, by simp⟩
theorem do_c (lo b : Nat) (s : Scr) (g cc : Nat) (ah : Option Addr) (dh : Nat) (w : World) (a : AV) (aa : Option Addr) (ca : Nat) (h : ScrAt lo b 0 s g cc ah dh w) (ok : ScrOK s) (hlo : lo ≤ w.heap.size) (hac : AcOK a) (ha : Sl intE 1 w aa a.args) (hna : ∀ k ∈ blkOf aa, k ≠ b ∧ k ≠ g ∧ k ∉ blkOf ah) :
    Calls Tryz.prog 40 #[.pointer (some ⟨b, 0, none⟩), .agg #[.int .i64 a.kind, .int .i64 a.n, .bool a.priv, .slice aa a.args.length ca, .string a.text]] w fun e w' => e = .returned (.tuple #[]) ∧ ScrR lo b 0 (actS s a) g ah w w' := by
  obtain ⟨kd, n, pv, xs, tx⟩ := a
  have HOK := Lib.hid ok
  obtain ⟨w1, hw1⟩ : ∃ x, w.alloc (.cells #[.int .i64 kd, .int .i64 n, .bool pv, .slice aa xs.length ca, .string tx] 38) = x := ⟨_, rfl⟩
  have HB1 : Hid (Below w.heap.size w w1) := Lib.hid (by rw [← hw1]; exact (Below.refl _ _).alloc (Nat.le_refl _) _)
  have hz1 := HB1.out.size
  have HS1 := Lib.hid (h.below HB1.out)
  have HU1 : Hid (Upd b 0 (0 + 12) (fun k => k = g ∨ k ∈ blkOf ah) w w1) := Lib.hid (Upd.refl'.below HB1.out h.lt)
  have HA1 := Lib.hid (ha.keep HB1.out)
  have HNA := Lib.hid hna
  have q_0 : w1.cell? ⟨w.heap.size, 0, none⟩ = some (.int .i64 kd) := by rw [← hw1]; simp [go_sem]
  have q_1 : w1.cell? ⟨w.heap.size, 1, none⟩ = some (.int .i64 n) := by rw [← hw1]; simp [go_sem]
  have q_2 : w1.cell? ⟨w.heap.size, 2, none⟩ = some (.bool pv) := by rw [← hw1]; simp [go_sem]
  have q_3 : w1.cell? ⟨w.heap.size, 3, none⟩ = some (.slice aa xs.length ca) := by rw [← hw1]; simp [go_sem]
  have q_4 : w1.cell? ⟨w.heap.size, 4, none⟩ = some (.string tx) := by rw [← hw1]; simp [go_sem]
  have hAC : Hid (AcOK ⟨kd, n, pv, xs, tx⟩) := Lib.hid hac
  have hlo1 : lo ≤ w1.heap.size := by omega
  clear h ok ha hna hac
  by_cases hk1 : kd = 1
  · subst hk1
    go_enter Tryz.func40, Tryz.ntmps40
    go_upto_region 1 with fail
    go_wp2_with fail
    refine (print_c lo b s g cc ah dh _ n HS1.out HOK.out hlo1).mono ?_
    rintro e x1 ⟨rfl, hr⟩
    have HR := Lib.hid hr
    clear hr
    go_wp2_with fail
    refine bodyPost_end (v := .tuple #[]) (by simp [results, Tryz.results40]) rfl ?_
    refine ⟨rfl, ScrR.trans HS1.out HU1.out (.inl rfl) (fun _ h => .inl h) ?_⟩
    unfold actS
    rw [if_pos rfl]
    exact HR.out
  by_cases hk2 : kd = 2
  · subst hk2
    go_enter Tryz.func40, Tryz.ntmps40
    go_upto_region 1 with fail
    go_wp2_with fail
    refine (control_c lo b s g cc ah dh _ n HS1.out HOK.out hlo1).mono ?_
    rintro e x1 ⟨rfl, hr⟩
    have HR := Lib.hid hr
    clear hr
    go_wp2_with fail
    refine bodyPost_end (v := .tuple #[]) (by simp [results, Tryz.results40]) rfl ?_
    refine ⟨rfl, ScrR.trans HS1.out HU1.out (.inl rfl) (fun _ h => .inl h) ?_⟩
    unfold actS
    rw [if_neg (by show ¬ (2 : Int) = 1; decide), if_pos rfl]
    exact HR.out
  by_cases hk3 : kd = 3
  · subst hk3
    go_enter Tryz.func40, Tryz.ntmps40
    go_upto_region 1 with fail
    go_wp2_with fail
    refine (escape_c lo b s g cc ah dh _ n HS1.out HOK.out hlo1).mono ?_
    rintro e x1 ⟨rfl, hr⟩
    have HR := Lib.hid hr
    clear hr
    go_wp2_with fail
    refine bodyPost_end (v := .tuple #[]) (by simp [results, Tryz.results40]) rfl ?_
    refine ⟨rfl, ScrR.trans HS1.out HU1.out (.inl rfl) (fun _ h => .inl h) ?_⟩
    unfold actS
    rw [if_neg (by show ¬ (3 : Int) = 1; decide), if_neg (by show ¬ (3 : Int) = 2; decide), if_pos rfl]
    exact HR.out
  by_cases hk4 : kd = 4
  · subst hk4
    go_enter Tryz.func40, Tryz.ntmps40
    go_upto_region 1 with fail
    go_wp2_with fail
    refine (scsi_c lo b s g cc ah dh _ 4 n pv xs aa ca tx HS1.out HOK.out hlo1 HA1.out HNA.out (AcOK.xs4 hAC.out).1 (AcOK.xs4 hAC.out).2).mono ?_
    rintro e x1 ⟨rfl, hr⟩
    have HR := Lib.hid hr
    clear hr
    go_wp2_with fail
    refine bodyPost_end (v := .tuple #[]) (by simp [results, Tryz.results40]) rfl ?_
    refine ⟨rfl, ScrR.trans HS1.out HU1.out (.inl rfl) (fun _ h => .inl h) ?_⟩
    unfold actS
    rw [if_neg (by show ¬ (4 : Int) = 1; decide), if_neg (by show ¬ (4 : Int) = 2; decide), if_neg (by show ¬ (4 : Int) = 3; decide), if_pos rfl]
    exact HR.out
  by_cases hk5 : kd = 5
  · subst hk5
    go_enter Tryz.func40, Tryz.ntmps40
    go_upto_region 1 with fail
    have k_9 := HS1.out.c9
    have k_f := HS1.out.fz
    have k_l := HS1.out.lt
    go_wp2_with fail
    refine bodyPost_end (v := .tuple #[]) (by simp [results, Tryz.results40]) rfl ?_
    refine ⟨rfl, ?_⟩
    unfold actS
    rw [if_neg (by show ¬ (5 : Int) = 1; decide), if_neg (by show ¬ (5 : Int) = 2; decide), if_neg (by show ¬ (5 : Int) = 3; decide), if_neg (by show ¬ (5 : Int) = 4; decide), if_pos rfl]
    exact .mk (HS1.out.set9 tx) (HU1.out.set9 _)
  rcases hAC.out with ⟨hk, _⟩ | ⟨_, _, ⟨hk, _⟩ | ⟨_, ⟨hk, _⟩ | ⟨hk, _⟩ | ⟨hk, _⟩⟩⟩
  · exact absurd hk hk4
  · exact absurd hk hk5
  · exact absurd hk hk1
  · exact absurd hk hk2
  · exact absurd hk hk3
end
section
open Go.RowKit
def FeedR (s : Scr) (p : PV) (w : World) (e : Ending) (w' : World) : Prop :=
  ∃ ac cc ah dh ap cp, e = .returned (.tuple #[scrV s ac cc ah dh, .agg #[.int .i64 p.state, .slice ap p.args.length cp, .bool p.priv, .string p.text, .string p.utf]]) ∧ ScrF w.heap.size s ac cc ah dh w' ∧ FreshIn intE 3 1 w.heap.size w'.heap.size (.slice ap p.args.length cp) p.args w' ∧ (∀ k ∈ blkOf ap, k ∉ blkOf ac ∧ k ∉ blkOf ah) ∧ Below w.heap.size w w'
theorem l04Feed_c (s : Scr) (ac : Option Addr) (cc : Nat) (ah : Option Addr) (dh : Nat) (p : PV) (ap : Option Addr) (cp : Nat) (t : ByteArray) (w : World) (hs : ScrS s ac ah w) (ok : ScrOK s) (hp : PvOK p) (ha : Sl intE 1 w ap p.args) (ht : t.size ≤ 131072) :
    Calls Tryz.prog 51 #[.agg #[.int .i64 (s.w : Int), .int .i64 (s.h : Int), .int .i64 (s.x : Int), .int .i64 (s.y : Int), .int .i64 (s.look : Int), .int .i64 (s.top : Int), .int .i64 (s.bot : Int), .int .i64 (s.sx : Int), .int .i64 (s.sy : Int), .string s.title, .slice ac s.cells.length cc, .slice ah s.hist.length dh], .agg #[.int .i64 p.state, .slice ap p.args.length cp, .bool p.priv, .string p.text, .string p.utf], .string t] w (FeedR (actsS s (prun p t.data.toList).2) (prun p t.data.toList).1 w) := by
  obtain ⟨W0, hW0⟩ : ∃ x, (((w.alloc (.cells #[.int .i64 (s.w : Int), .int .i64 (s.h : Int), .int .i64 (s.x : Int), .int .i64 (s.y : Int), .int .i64 (s.look : Int), .int .i64 (s.top : Int), .int .i64 (s.bot : Int), .int .i64 (s.sx : Int), .int .i64 (s.sy : Int), .string s.title, .slice ac s.cells.length cc, .slice ah s.hist.length dh] 26)).alloc (.cells #[.int .i64 p.state, .slice ap p.args.length cp, .bool p.priv, .string p.text, .string p.utf] 42)).alloc (.cells #[.int .i64 0, .int .i64 0, .int .i64 0, .int .i64 0, .int .i64 0, .int .i64 0, .int .i64 0, .int .i64 0, .int .i64 0, .string ⟨#[]⟩, .slice none 0 0, .slice none 0 0] 26)).alloc (.cells #[.int .i64 0, .slice none 0 0, .bool false, .string ⟨#[]⟩, .string ⟨#[]⟩] 42) = x := ⟨_, rfl⟩
  have HB0 : Hid (Below w.heap.size w W0) := Lib.hid (by rw [← hW0]; exact ((((Below.refl w.heap.size w).alloc (Nat.le_refl _) _).alloc (by simp) _).alloc (by simp; omega) _).alloc (by simp; omega) _)
  have hz0 : w.heap.size + 3 < W0.heap.size := by rw [← hW0]; simp
  have a_0 : W0.cell? ⟨w.heap.size, 0, none⟩ = some (.int .i64 (s.w : Int)) := by rw [← hW0]; simp [go_sem]
  have a_1 : W0.cell? ⟨w.heap.size, 1, none⟩ = some (.int .i64 (s.h : Int)) := by rw [← hW0]; simp [go_sem]
  have a_2 : W0.cell? ⟨w.heap.size, 2, none⟩ = some (.int .i64 (s.x : Int)) := by rw [← hW0]; simp [go_sem]
  have a_3 : W0.cell? ⟨w.heap.size, 3, none⟩ = some (.int .i64 (s.y : Int)) := by rw [← hW0]; simp [go_sem]
  have a_4 : W0.cell? ⟨w.heap.size, 4, none⟩ = some (.int .i64 (s.look : Int)) := by rw [← hW0]; simp [go_sem]
  have a_5 : W0.cell? ⟨w.heap.size, 5, none⟩ = some (.int .i64 (s.top : Int)) := by rw [← hW0]; simp [go_sem]
  have a_6 : W0.cell? ⟨w.heap.size, 6, none⟩ = some (.int .i64 (s.bot : Int)) := by rw [← hW0]; simp [go_sem]
  have a_7 : W0.cell? ⟨w.heap.size, 7, none⟩ = some (.int .i64 (s.sx : Int)) := by rw [← hW0]; simp [go_sem]
  have a_8 : W0.cell? ⟨w.heap.size, 8, none⟩ = some (.int .i64 (s.sy : Int)) := by rw [← hW0]; simp [go_sem]
  have a_9 : W0.cell? ⟨w.heap.size, 9, none⟩ = some (.string s.title) := by rw [← hW0]; simp [go_sem]
  have a_10 : W0.cell? ⟨w.heap.size, 10, none⟩ = some (.slice ac s.cells.length cc) := by rw [← hW0]; simp [go_sem]
  have a_11 : W0.cell? ⟨w.heap.size, 11, none⟩ = some (.slice ah s.hist.length dh) := by rw [← hW0]; simp [go_sem]
  have b_0 : W0.cell? ⟨w.heap.size + 1, 0, none⟩ = some (.int .i64 p.state) := by rw [← hW0]; simp [go_sem]
  have b_1 : W0.cell? ⟨w.heap.size + 1, 1, none⟩ = some (.slice ap p.args.length cp) := by rw [← hW0]; simp [go_sem]
  have b_2 : W0.cell? ⟨w.heap.size + 1, 2, none⟩ = some (.bool p.priv) := by rw [← hW0]; simp [go_sem]
  have b_3 : W0.cell? ⟨w.heap.size + 1, 3, none⟩ = some (.string p.text) := by rw [← hW0]; simp [go_sem]
  have b_4 : W0.cell? ⟨w.heap.size + 1, 4, none⟩ = some (.string p.utf) := by rw [← hW0]; simp [go_sem]
  have c_0 : W0.cell? ⟨w.heap.size + 2, 0, none⟩ = some (.int .i64 0) := by rw [← hW0]; simp [go_sem]
  have c_1 : W0.cell? ⟨w.heap.size + 2, 1, none⟩ = some (.int .i64 0) := by rw [← hW0]; simp [go_sem]
  have c_2 : W0.cell? ⟨w.heap.size + 2, 2, none⟩ = some (.int .i64 0) := by rw [← hW0]; simp [go_sem]
  have c_3 : W0.cell? ⟨w.heap.size + 2, 3, none⟩ = some (.int .i64 0) := by rw [← hW0]; simp [go_sem]
  have c_4 : W0.cell? ⟨w.heap.size + 2, 4, none⟩ = some (.int .i64 0) := by rw [← hW0]; simp [go_sem]
  have c_5 : W0.cell? ⟨w.heap.size + 2, 5, none⟩ = some (.int .i64 0) := by rw [← hW0]; simp [go_sem]
  have c_6 : W0.cell? ⟨w.heap.size + 2, 6, none⟩ = some (.int .i64 0) := by rw [← hW0]; simp [go_sem]
  have c_7 : W0.cell? ⟨w.heap.size + 2, 7, none⟩ = some (.int .i64 0) := by rw [← hW0]; simp [go_sem]
  have c_8 : W0.cell? ⟨w.heap.size + 2, 8, none⟩ = some (.int .i64 0) := by rw [← hW0]; simp [go_sem]
  have c_9 : W0.cell? ⟨w.heap.size + 2, 9, none⟩ = some (.string ⟨#[]⟩) := by rw [← hW0]; simp [go_sem]
  have c_10 : W0.cell? ⟨w.heap.size + 2, 10, none⟩ = some (.slice none 0 0) := by rw [← hW0]; simp [go_sem]
  have c_11 : W0.cell? ⟨w.heap.size + 2, 11, none⟩ = some (.slice none 0 0) := by rw [← hW0]; simp [go_sem]
  have c_f : ∀ o, W0.frozen? ⟨w.heap.size + 2, o, none⟩ = false := fun o => by rw [← hW0]; simp [go_sem]
  have d_0 : W0.cell? ⟨w.heap.size + 3, 0, none⟩ = some (.int .i64 0) := by rw [← hW0]; simp [go_sem]
  have d_1 : W0.cell? ⟨w.heap.size + 3, 1, none⟩ = some (.slice none 0 0) := by rw [← hW0]; simp [go_sem]
  have d_2 : W0.cell? ⟨w.heap.size + 3, 2, none⟩ = some (.bool false) := by rw [← hW0]; simp [go_sem]
  have d_3 : W0.cell? ⟨w.heap.size + 3, 3, none⟩ = some (.string ⟨#[]⟩) := by rw [← hW0]; simp [go_sem]
  have d_4 : W0.cell? ⟨w.heap.size + 3, 4, none⟩ = some (.string ⟨#[]⟩) := by rw [← hW0]; simp [go_sem]
  have d_f : ∀ o, W0.frozen? ⟨w.heap.size + 3, o, none⟩ = false := fun o => by rw [← hW0]; simp [go_sem]
  have HS0 := Lib.hid (hs.below HB0.out)
  have HOK := Lib.hid ok
  have HP := Lib.hid hp
  have HA0 := Lib.hid (ha.keep HB0.out)
  have hcn : s.cells.length ≤ 240 := by rw [ok.cn]; exact Nat.mul_le_mul ok.w2 ok.h2
  have hhn := ok.hn
  have hc0 : 0 < s.cells.length := by rw [ok.cn]; exact Nat.mul_pos (by have := ok.w1; omega) (by have := ok.h1; omega)
  have HCN := Lib.hid hcn
  have HHN := Lib.hid hhn
  have HC0 := Lib.hid hc0
  clear hs ok hp ha hcn hhn hc0
  go_enter Tryz.func51, Tryz.ntmps51
  go_upto_region 1 with fail
  clear hW0
  go_wp2_with fail
  refine (run_r ap cp p t _ HA0.out ht HP.out).mono ?_
  rintro e w1 ⟨ap2, cp2, al2, cl2, L, rfl, hf, hro, hd, hL, hb⟩
  obtain ⟨q, hq⟩ : ∃ q, (prun p t.data.toList).1 = q := ⟨_, rfl⟩
  obtain ⟨acts, hacts⟩ : ∃ l, (prun p t.data.toList).2 = l := ⟨_, rfl⟩
  have hAC : ∀ r ∈ L, AcOK r.A := fun r hr => prun_ac t.data.toList HP.out r.A (by rw [← hL]; exact List.mem_map_of_mem hr)
  have hLn : L.length ≤ 300000 := by
    have h1 := run_len t.data.toList p
    have h2 := congrArg List.length hL
    have h3 : t.data.toList.length = t.size := rfl
    rw [List.length_map] at h2
    omega
  rw [hq] at hf
  rw [hacts] at hL
  rw [hq]
  have HQ := Lib.hid hq
  have HACTS := Lib.hid hacts
  have HB1 := Lib.hid hb
  have hz1 := hb.size
  have HF := Lib.hid hf
  have HRO := Lib.hid hro
  have HL := Lib.hid hL
  have HAC := Lib.hid hAC
  obtain ⟨W1, hW1⟩ : ∃ x, w1.alloc (.cells #[.int .i64 q.state, .slice ap2 q.args.length cp2, .bool q.priv, .string q.text, .string q.utf] 42) = x := ⟨_, rfl⟩
  have HBW1 : Hid (Below w1.heap.size w1 W1) := Lib.hid (by rw [← hW1]; exact (Below.refl _ _).alloc (Nat.le_refl _) _)
  have hzW1 : w1.heap.size < W1.heap.size := by rw [← hW1]; simp
  have y_0 : W1.cell? ⟨w1.heap.size, 0, none⟩ = some (.int .i64 q.state) := by rw [← hW1]; simp [go_sem]
  have y_1 : W1.cell? ⟨w1.heap.size, 1, none⟩ = some (.slice ap2 q.args.length cp2) := by rw [← hW1]; simp [go_sem]
  have y_2 : W1.cell? ⟨w1.heap.size, 2, none⟩ = some (.bool q.priv) := by rw [← hW1]; simp [go_sem]
  have y_3 : W1.cell? ⟨w1.heap.size, 3, none⟩ = some (.string q.text) := by rw [← hW1]; simp [go_sem]
  have y_4 : W1.cell? ⟨w1.heap.size, 4, none⟩ = some (.string q.utf) := by rw [← hW1]; simp [go_sem]
  have HB01 : Hid (Below W0.heap.size W0 W1) := Lib.hid (HB1.out.trans (HBW1.out.mono hz1))
  have e_0 := kC HB01.out (by omega) a_0
  have e_1 := kC HB01.out (by omega) a_1
  have e_2 := kC HB01.out (by omega) a_2
  have e_3 := kC HB01.out (by omega) a_3
  have e_4 := kC HB01.out (by omega) a_4
  have e_5 := kC HB01.out (by omega) a_5
  have e_6 := kC HB01.out (by omega) a_6
  have e_7 := kC HB01.out (by omega) a_7
  have e_8 := kC HB01.out (by omega) a_8
  have e_9 := kC HB01.out (by omega) a_9
  have e_10 := kC HB01.out (by omega) a_10
  have e_11 := kC HB01.out (by omega) a_11
  have HS1 := Lib.hid (HS0.out.below HB01.out)
  clear hf hro hd hL hb hq hacts hAC
  go_upto_region 2 with fail
  clear hW1
  go_wp2_with fail
  refine (l04Own_c s ac cc ah dh _ HS1.out HCN.out HHN.out).mono ?_
  rintro e w2 ⟨ac2, cc2, ah2, dh2, rfl, hF2, hb2⟩
  obtain ⟨g2, rfl⟩ := hF2.blk HC0.out
  have HF2 := Lib.hid hF2
  have HB2 := Lib.hid hb2
  have hz2 := hb2.size
  obtain ⟨lo, hlo⟩ : ∃ l, W1.heap.size = l := ⟨_, rfl⟩
  unfold scrV
  obtain ⟨b, hb⟩ : ∃ b, w2.heap.size = b := ⟨_, rfl⟩
  obtain ⟨W3, hW3⟩ : ∃ x, w2.alloc (.cells #[.int .i64 (s.w : Int), .int .i64 (s.h : Int), .int .i64 (s.x : Int), .int .i64 (s.y : Int), .int .i64 (s.look : Int), .int .i64 (s.top : Int), .int .i64 (s.bot : Int), .int .i64 (s.sx : Int), .int .i64 (s.sy : Int), .string s.title, .slice (some ⟨g2, 0, none⟩) s.cells.length cc2, .slice ah2 s.hist.length dh2] 67) = x := ⟨_, rfl⟩
  have HA3 : Hid (ScrAt lo b 0 s g2 cc2 ah2 dh2 W3) := Lib.hid (by rw [← hW3, ← hb, ← hlo]; exact ScrAt.box hF2 _)
  have HB23 : Hid (Below w2.heap.size w2 W3) := Lib.hid (by rw [← hW3]; exact (Below.refl _ _).alloc (Nat.le_refl _) _)
  have HB3 : Hid (Below lo W1 W3) := Lib.hid (by rw [← hlo]; exact hb2.trans (HB23.out.mono hz2))
  have hlob : lo ≤ b := by omega
  have HLO := Lib.hid hlo
  have HBB := Lib.hid hb
  clear hF2 hb2 e_0 e_1 e_2 e_3 e_4 e_5 e_6 e_7 e_8 e_9 e_10 e_11
  go_upto_region 3 with fail
  clear hW3 hb
  go_wp2_with fail
  go_loopw [11] (fun iv wr => ∃ i : Nat, i ≤ L.length ∧ iv = .int .i64 i ∧ Hid (∃ g1 c1 a1 d1, ScrAt lo b 0 (actsS s ((L.take i).map (·.A))) g1 c1 a1 d1 wr ∧ Below lo W1 wr)) (fun iv _ => L.length - (intOf iv).toNat)
  case atStart => exact ⟨0, Nat.zero_le _, rfl, Lib.hid ⟨g2, cc2, ah2, dh2, HA3.out, HB3.out⟩⟩
  case round =>
    obtain ⟨i, hi, rfl, HI⟩ := hrel
    obtain ⟨g1, c1, a1, d1, hax, hbx⟩ := HI.out
    obtain ⟨s1, hs1⟩ : ∃ x, actsS s ((L.take i).map (·.A)) = x := ⟨_, rfl⟩
    have hok1 : ScrOK s1 := by
      rw [← hs1]
      exact HOK.out.acts (fun a ha => by
        obtain ⟨r, hr, rfl⟩ := List.mem_map.1 ha
        exact HAC.out r (List.mem_of_mem_take hr))
    rw [hs1] at hax
    have HX := Lib.hid hax
    have HBX := Lib.hid hbx
    have HOK1 := Lib.hid hok1
    have HS1' := Lib.hid hs1
    have hzr := hbx.size
    have hzl := HLO.out
    clear hax hbx hs1 hok1
    have HBW : Hid (Below W1.heap.size W1 wr) := Lib.hid (by rw [HLO.out]; exact HBX.out)
    have hw1r : w1.heap.size < wr.heap.size := by omega
    have HLr : Hid (Sl actE 5 wr al2 L ∧ ∀ r ∈ L, Sl intE 1 wr r.aa r.A.args ∧ ∀ k ∈ blkOf r.aa, k < lo) := Lib.hid ⟨((FreshIn.sl (enc := actE) (sz := 5) (fun _ => rfl) HRO.out.row).keep HBW1.out).keep HBW.out, fun r hr => ⟨((FreshIn.sl (enc := intE) (fun _ => rfl) (HRO.out.ow r hr)).keep HBW1.out).keep HBW.out, fun k hk => by have := (FreshIn.blks (HRO.out.ow r hr) k hk).2; omega⟩⟩
    by_cases hlt : i < L.length
    · have hlt' : (i : Int) < (L.length : Int) := by omega
      obtain ⟨b1, o1, hae, hb1, hc1⟩ := HLr.out.1.at hlt
      subst hae
      obtain ⟨r, hr⟩ : ∃ r, L[i] = r := ⟨_, rfl⟩
      have hrm : r ∈ L := hr ▸ List.getElem_mem hlt
      have HRM := Lib.hid (HLr.out.2 r hrm)
      have HRA := Lib.hid (HAC.out r hrm)
      have r_0 : wr.cell? ⟨b1, o1 + i * 5, none⟩ = some (.int .i64 r.A.kind) := by have := hc1 i hlt 0 (by omega); rw [hr] at this; simpa [actE] using this
      have r_1 : wr.cell? ⟨b1, o1 + i * 5 + 1, none⟩ = some (.int .i64 r.A.n) := by have := hc1 i hlt 1 (by omega); rw [hr] at this; simpa [actE] using this
      have r_2 : wr.cell? ⟨b1, o1 + i * 5 + 2, none⟩ = some (.bool r.A.priv) := by have := hc1 i hlt 2 (by omega); rw [hr] at this; simpa [actE] using this
      have r_3 : wr.cell? ⟨b1, o1 + i * 5 + 3, none⟩ = some (.slice r.aa r.A.args.length r.ca) := by have := hc1 i hlt 3 (by omega); rw [hr] at this; simpa [actE] using this
      have r_4 : wr.cell? ⟨b1, o1 + i * 5 + 4, none⟩ = some (.string r.A.text) := by have := hc1 i hlt 4 (by omega); rw [hr] at this; simpa [actE] using this
      have HTK : Hid (actsS s ((L.take (i + 1)).map (·.A)) = actS s1 r.A) := Lib.hid (by
        rw [List.take_succ_eq_append_getElem hlt, hr, List.map_append, ← HS1'.out]
        unfold actsS
        rw [List.foldl_append]
        rfl)
      have hnaa : ∀ k ∈ blkOf r.aa, k ≠ b ∧ k ≠ g1 ∧ k ∉ blkOf a1 := fun k hk => by
        have h1 := HRM.out.2 k hk
        have h2 := HX.out.glt.1
        refine ⟨by omega, by omega, fun h => ?_⟩
        have := (HX.out.win.blk k h).1
        omega
      have HNAA := Lib.hid hnaa
      clear hc1 hr hrm hnaa
      go_wp2_with fail
      refine (do_c lo b s1 g1 c1 a1 d1 _ r.A r.aa r.ca HX.out HOK1.out (by omega) HRA.out HRM.out.1 HNAA.out).mono ?_
      rintro e x1 ⟨rfl, g3, c3, a3, d3, hx3, hu3, _⟩
      have HX3 := Lib.hid hx3
      have HB3' : Hid (Below lo W1 x1) := Lib.hid (HBX.out.trans (hu3.toBelow (by omega) hlob (fun k hk => by
        rcases hk with h | h
        · rw [h]; exact HX.out.glt.1
        · exact (HX.out.win.blk k h).1)))
      clear hx3 hu3
      go_wp2_with fail
      go_roundw
      case rel => exact ⟨i + 1, by omega, by go_num, Lib.hid ⟨g3, c3, a3, d3, by rw [HTK.out]; exact HX3.out, HB3'.out⟩⟩
      case measure => simp [intOf]; omega
    · obtain rfl : i = L.length := by omega
      have HE : Hid (actsS s acts = s1) := Lib.hid (by rw [← HS1'.out, List.take_length, HL.out])
      go_upto_region 7 with fail
      have f_0 := kC HBW.out hzW1 y_0
      have f_1 := kC HBW.out hzW1 y_1
      have f_2 := kC HBW.out hzW1 y_2
      have f_3 := kC HBW.out hzW1 y_3
      have f_4 := kC HBW.out hzW1 y_4
      have hz02 : w.heap.size + 2 < W0.heap.size := by omega
      have u_0 : wr.cell? ⟨w.heap.size + 2, 0, none⟩ = some (.int .i64 0) := (HBW.out.cell (p := ⟨w.heap.size + 2, 0, none⟩) (by show w.heap.size + 2 < _; omega)).trans ((HB01.out.cell (p := ⟨w.heap.size + 2, 0, none⟩) hz02).trans c_0)
      have u_1 : wr.cell? ⟨w.heap.size + 2, 1, none⟩ = some (.int .i64 0) := (HBW.out.cell (p := ⟨w.heap.size + 2, 1, none⟩) (by show w.heap.size + 2 < _; omega)).trans ((HB01.out.cell (p := ⟨w.heap.size + 2, 1, none⟩) hz02).trans c_1)
      have u_2 : wr.cell? ⟨w.heap.size + 2, 2, none⟩ = some (.int .i64 0) := (HBW.out.cell (p := ⟨w.heap.size + 2, 2, none⟩) (by show w.heap.size + 2 < _; omega)).trans ((HB01.out.cell (p := ⟨w.heap.size + 2, 2, none⟩) hz02).trans c_2)
      have u_3 : wr.cell? ⟨w.heap.size + 2, 3, none⟩ = some (.int .i64 0) := (HBW.out.cell (p := ⟨w.heap.size + 2, 3, none⟩) (by show w.heap.size + 2 < _; omega)).trans ((HB01.out.cell (p := ⟨w.heap.size + 2, 3, none⟩) hz02).trans c_3)
      have u_4 : wr.cell? ⟨w.heap.size + 2, 4, none⟩ = some (.int .i64 0) := (HBW.out.cell (p := ⟨w.heap.size + 2, 4, none⟩) (by show w.heap.size + 2 < _; omega)).trans ((HB01.out.cell (p := ⟨w.heap.size + 2, 4, none⟩) hz02).trans c_4)
      have u_5 : wr.cell? ⟨w.heap.size + 2, 5, none⟩ = some (.int .i64 0) := (HBW.out.cell (p := ⟨w.heap.size + 2, 5, none⟩) (by show w.heap.size + 2 < _; omega)).trans ((HB01.out.cell (p := ⟨w.heap.size + 2, 5, none⟩) hz02).trans c_5)
      have u_6 : wr.cell? ⟨w.heap.size + 2, 6, none⟩ = some (.int .i64 0) := (HBW.out.cell (p := ⟨w.heap.size + 2, 6, none⟩) (by show w.heap.size + 2 < _; omega)).trans ((HB01.out.cell (p := ⟨w.heap.size + 2, 6, none⟩) hz02).trans c_6)
      have u_7 : wr.cell? ⟨w.heap.size + 2, 7, none⟩ = some (.int .i64 0) := (HBW.out.cell (p := ⟨w.heap.size + 2, 7, none⟩) (by show w.heap.size + 2 < _; omega)).trans ((HB01.out.cell (p := ⟨w.heap.size + 2, 7, none⟩) hz02).trans c_7)
      have u_8 : wr.cell? ⟨w.heap.size + 2, 8, none⟩ = some (.int .i64 0) := (HBW.out.cell (p := ⟨w.heap.size + 2, 8, none⟩) (by show w.heap.size + 2 < _; omega)).trans ((HB01.out.cell (p := ⟨w.heap.size + 2, 8, none⟩) hz02).trans c_8)
      have u_9 : wr.cell? ⟨w.heap.size + 2, 9, none⟩ = some (.string ⟨#[]⟩) := (HBW.out.cell (p := ⟨w.heap.size + 2, 9, none⟩) (by show w.heap.size + 2 < _; omega)).trans ((HB01.out.cell (p := ⟨w.heap.size + 2, 9, none⟩) hz02).trans c_9)
      have u_10 : wr.cell? ⟨w.heap.size + 2, 10, none⟩ = some (.slice none 0 0) := (HBW.out.cell (p := ⟨w.heap.size + 2, 10, none⟩) (by show w.heap.size + 2 < _; omega)).trans ((HB01.out.cell (p := ⟨w.heap.size + 2, 10, none⟩) hz02).trans c_10)
      have u_11 : wr.cell? ⟨w.heap.size + 2, 11, none⟩ = some (.slice none 0 0) := (HBW.out.cell (p := ⟨w.heap.size + 2, 11, none⟩) (by show w.heap.size + 2 < _; omega)).trans ((HB01.out.cell (p := ⟨w.heap.size + 2, 11, none⟩) hz02).trans c_11)
      have u_f : ∀ o, wr.frozen? ⟨w.heap.size + 2, o, none⟩ = false := fun o => (HBW.out.frozen (p := ⟨w.heap.size + 2, o, none⟩) (by show w.heap.size + 2 < _; omega)).trans ((HB01.out.frozen (p := ⟨w.heap.size + 2, o, none⟩) hz02).trans (c_f o))
      have v_0 : wr.cell? ⟨w.heap.size + 3, 0, none⟩ = some (.int .i64 0) := (HBW.out.cell (p := ⟨w.heap.size + 3, 0, none⟩) (by show w.heap.size + 3 < _; omega)).trans ((HB01.out.cell (p := ⟨w.heap.size + 3, 0, none⟩) hz0).trans d_0)
      have v_1 : wr.cell? ⟨w.heap.size + 3, 1, none⟩ = some (.slice none 0 0) := (HBW.out.cell (p := ⟨w.heap.size + 3, 1, none⟩) (by show w.heap.size + 3 < _; omega)).trans ((HB01.out.cell (p := ⟨w.heap.size + 3, 1, none⟩) hz0).trans d_1)
      have v_2 : wr.cell? ⟨w.heap.size + 3, 2, none⟩ = some (.bool false) := (HBW.out.cell (p := ⟨w.heap.size + 3, 2, none⟩) (by show w.heap.size + 3 < _; omega)).trans ((HB01.out.cell (p := ⟨w.heap.size + 3, 2, none⟩) hz0).trans d_2)
      have v_3 : wr.cell? ⟨w.heap.size + 3, 3, none⟩ = some (.string ⟨#[]⟩) := (HBW.out.cell (p := ⟨w.heap.size + 3, 3, none⟩) (by show w.heap.size + 3 < _; omega)).trans ((HB01.out.cell (p := ⟨w.heap.size + 3, 3, none⟩) hz0).trans d_3)
      have v_4 : wr.cell? ⟨w.heap.size + 3, 4, none⟩ = some (.string ⟨#[]⟩) := (HBW.out.cell (p := ⟨w.heap.size + 3, 4, none⟩) (by show w.heap.size + 3 < _; omega)).trans ((HB01.out.cell (p := ⟨w.heap.size + 3, 4, none⟩) hz0).trans d_4)
      have v_f : ∀ o, wr.frozen? ⟨w.heap.size + 3, o, none⟩ = false := fun o => (HBW.out.frozen (p := ⟨w.heap.size + 3, o, none⟩) (by show w.heap.size + 3 < _; omega)).trans ((HB01.out.frozen (p := ⟨w.heap.size + 3, o, none⟩) hz0).trans (d_f o))
      have k_0 := HX.out.e0
      have k_1 := HX.out.e1
      have k_2 := HX.out.e2
      have k_3 := HX.out.e3
      have k_4 := HX.out.e4
      have k_5 := HX.out.e5
      have k_6 := HX.out.e6
      have k_7 := HX.out.e7
      have k_8 := HX.out.e8
      have k_9 := HX.out.e9
      have k_10 := HX.out.e10
      have k_11 := HX.out.e11
      have k_f := HX.out.fz
      have k_l := HX.out.lt
      have hSc1 := And.intro k_0 (And.intro k_1 (And.intro k_2 (And.intro k_3 (And.intro k_4 (And.intro k_5 (And.intro k_6 (And.intro k_7 (And.intro k_8 (And.intro k_9 (And.intro k_10 (And.intro k_11 (And.intro f_0 (And.intro f_1 (And.intro f_2 (And.intro f_3 f_4)))))))))))))))
      refine wp_region_G (fun w' => w'.cell? ⟨b, 0, none⟩ = some (.int .i64 (s1.w : Int)) ∧ w'.cell? ⟨b, 1, none⟩ = some (.int .i64 (s1.h : Int)) ∧ w'.cell? ⟨b, 2, none⟩ = some (.int .i64 (s1.x : Int)) ∧ w'.cell? ⟨b, 3, none⟩ = some (.int .i64 (s1.y : Int)) ∧ w'.cell? ⟨b, 4, none⟩ = some (.int .i64 (s1.look : Int)) ∧ w'.cell? ⟨b, 5, none⟩ = some (.int .i64 (s1.top : Int)) ∧ w'.cell? ⟨b, 6, none⟩ = some (.int .i64 (s1.bot : Int)) ∧ w'.cell? ⟨b, 7, none⟩ = some (.int .i64 (s1.sx : Int)) ∧ w'.cell? ⟨b, 8, none⟩ = some (.int .i64 (s1.sy : Int)) ∧ w'.cell? ⟨b, 9, none⟩ = some (.string s1.title) ∧ w'.cell? ⟨b, 10, none⟩ = some (.slice (some ⟨g1, 0, none⟩) s1.cells.length c1) ∧ w'.cell? ⟨b, 11, none⟩ = some (.slice a1 s1.hist.length d1) ∧ w'.cell? ⟨w1.heap.size, 0, none⟩ = some (.int .i64 q.state) ∧ w'.cell? ⟨w1.heap.size, 1, none⟩ = some (.slice ap2 q.args.length cp2) ∧ w'.cell? ⟨w1.heap.size, 2, none⟩ = some (.bool q.priv) ∧ w'.cell? ⟨w1.heap.size, 3, none⟩ = some (.string q.text) ∧ w'.cell? ⟨w1.heap.size, 4, none⟩ = some (.string q.utf)) (fun i => i == 7) (by kernel_rfl) hSc1 ?_
      refine tW ?_ 0 rfl ?_ ?_; rotate_left
      · intro w' hSw; go_simp; try rfl
      try simp only [Act.put,j1,j2,j3,j4,j5,j6]
      refine tW ?_ 1 rfl ?_ ?_; rotate_left
      · intro w' hSw; go_simp; try rfl
      try simp only [Act.put,j1,j2,j3,j4,j5,j6]
      refine tW ?_ 2 rfl ?_ ?_; rotate_left
      · intro w' hSw; go_simp; try rfl
      try simp only [Act.put,j1,j2,j3,j4,j5,j6]
      refine tL ?_ 3 rfl hSc1 ?_ ?_; rotate_left
      · intro w' hSw; obtain ⟨s0, s1, s2, s3, s4, s5, s6, s7, s8, s9, s10, s11, s12, s13, s14, s15, s16⟩ := hSw; go_simp; try rfl
      try simp only [Act.put,j1,j2,j3,j4,j5,j6]
      refine tL ?_ 5 rfl hSc1 ?_ ?_; rotate_left
      · intro w' hSw; obtain ⟨s0, s1, s2, s3, s4, s5, s6, s7, s8, s9, s10, s11, s12, s13, s14, s15, s16⟩ := hSw; go_simp; try rfl
      try simp only [Act.put,j1,j2,j3,j4,j5,j6]
      refine wpAnyG_one (i := 4) (by kernel_rfl) rfl hSc1 (fun K' hK => ?_)
      simp only [j1,j2,j3]
      go_simp
      refine (l04Own_c s1 (some ⟨g1, 0, none⟩) c1 a1 d1 _ HX.out.drew.rd (by rw [HOK1.out.cn]; exact Nat.mul_le_mul HOK1.out.w2 HOK1.out.h2) HOK1.out.hn).mono ?_
      rintro e x1 ⟨ac3, cc3, ah3, dh3, rfl, hF3, hb3⟩
      have HB3x : Hid (Below wr.heap.size wr x1) := Lib.hid (((Below.refl _ _).drew).trans hb3)
      have HF3 : Hid (ScrF wr.heap.size s1 ac3 cc3 ah3 dh3 x1) := Lib.hid hF3
      have hzx := HB3x.out.size
      have HX1 := Lib.hid (HX.out.below HB3x.out)
      clear hF3 hb3
      unfold scrV
      have hSx : x1.cell? ⟨b, 0, none⟩ = some (.int .i64 (s1.w : Int)) ∧ x1.cell? ⟨b, 1, none⟩ = some (.int .i64 (s1.h : Int)) ∧ x1.cell? ⟨b, 2, none⟩ = some (.int .i64 (s1.x : Int)) ∧ x1.cell? ⟨b, 3, none⟩ = some (.int .i64 (s1.y : Int)) ∧ x1.cell? ⟨b, 4, none⟩ = some (.int .i64 (s1.look : Int)) ∧ x1.cell? ⟨b, 5, none⟩ = some (.int .i64 (s1.top : Int)) ∧ x1.cell? ⟨b, 6, none⟩ = some (.int .i64 (s1.bot : Int)) ∧ x1.cell? ⟨b, 7, none⟩ = some (.int .i64 (s1.sx : Int)) ∧ x1.cell? ⟨b, 8, none⟩ = some (.int .i64 (s1.sy : Int)) ∧ x1.cell? ⟨b, 9, none⟩ = some (.string s1.title) ∧ x1.cell? ⟨b, 10, none⟩ = some (.slice (some ⟨g1, 0, none⟩) s1.cells.length c1) ∧ x1.cell? ⟨b, 11, none⟩ = some (.slice a1 s1.hist.length d1) ∧ x1.cell? ⟨w1.heap.size, 0, none⟩ = some (.int .i64 q.state) ∧ x1.cell? ⟨w1.heap.size, 1, none⟩ = some (.slice ap2 q.args.length cp2) ∧ x1.cell? ⟨w1.heap.size, 2, none⟩ = some (.bool q.priv) ∧ x1.cell? ⟨w1.heap.size, 3, none⟩ = some (.string q.text) ∧ x1.cell? ⟨w1.heap.size, 4, none⟩ = some (.string q.utf) := ⟨HX1.out.c0, HX1.out.c1, HX1.out.c2, HX1.out.c3, HX1.out.c4, HX1.out.c5, HX1.out.c6, HX1.out.c7, HX1.out.c8, HX1.out.c9, HX1.out.c10, HX1.out.c11, (HB3x.out.cell (p := ⟨w1.heap.size, 0, none⟩) hw1r).trans f_0, (HB3x.out.cell (p := ⟨w1.heap.size, 1, none⟩) hw1r).trans f_1, (HB3x.out.cell (p := ⟨w1.heap.size, 2, none⟩) hw1r).trans f_2, (HB3x.out.cell (p := ⟨w1.heap.size, 3, none⟩) hw1r).trans f_3, (HB3x.out.cell (p := ⟨w1.heap.size, 4, none⟩) hw1r).trans f_4⟩
      have p6_0 := kC HB3x.out (by omega) u_0
      have p6_1 := kC HB3x.out (by omega) u_1
      have p6_2 := kC HB3x.out (by omega) u_2
      have p6_3 := kC HB3x.out (by omega) u_3
      have p6_4 := kC HB3x.out (by omega) u_4
      have p6_5 := kC HB3x.out (by omega) u_5
      have p6_6 := kC HB3x.out (by omega) u_6
      have p6_7 := kC HB3x.out (by omega) u_7
      have p6_8 := kC HB3x.out (by omega) u_8
      have p6_9 := kC HB3x.out (by omega) u_9
      have p6_10 := kC HB3x.out (by omega) u_10
      have p6_11 := kC HB3x.out (by omega) u_11
      have p6_f : ∀ o, x1.frozen? ⟨w.heap.size + 2, o, none⟩ = false := fun o => (HB3x.out.frozen (p := ⟨w.heap.size + 2, o, none⟩) (by show w.heap.size + 2 < _; omega)).trans (u_f o)
      have p7_0 := kC HB3x.out (by omega) v_0
      have p7_1 := kC HB3x.out (by omega) v_1
      have p7_2 := kC HB3x.out (by omega) v_2
      have p7_3 := kC HB3x.out (by omega) v_3
      have p7_4 := kC HB3x.out (by omega) v_4
      have p7_f : ∀ o, x1.frozen? ⟨w.heap.size + 3, o, none⟩ = false := fun o => (HB3x.out.frozen (p := ⟨w.heap.size + 3, o, none⟩) (by show w.heap.size + 3 < _; omega)).trans (v_f o)
      have p6_l : w.heap.size + 2 < x1.heap.size := by omega
      have p7_l : w.heap.size + 3 < x1.heap.size := by omega
      refine hK.out _ _ (Or.inr hSx) ?_
      clear hK K'
      try simp only [Act.put,j1,j2,j3,j4,j5,j6]
      refine wpAnyG_one (i := 6) (by kernel_rfl) rfl hSx (fun K' hK => ?_)
      simp only [j1,j2,j3]
      go_simp
      obtain ⟨x2, hx2⟩ : ∃ x, ((((((((((((x1.setCell ⟨w.heap.size + 1 + 1, 0, none⟩ (.int .i64 (s1.w : Int))).setCell ⟨w.heap.size + 1 + 1, 1, none⟩ (.int .i64 (s1.h : Int))).setCell ⟨w.heap.size + 1 + 1, 2, none⟩ (.int .i64 (s1.x : Int))).setCell ⟨w.heap.size + 1 + 1, 3, none⟩ (.int .i64 (s1.y : Int))).setCell ⟨w.heap.size + 1 + 1, 4, none⟩ (.int .i64 (s1.look : Int))).setCell ⟨w.heap.size + 1 + 1, 5, none⟩ (.int .i64 (s1.top : Int))).setCell ⟨w.heap.size + 1 + 1, 6, none⟩ (.int .i64 (s1.bot : Int))).setCell ⟨w.heap.size + 1 + 1, 7, none⟩ (.int .i64 (s1.sx : Int))).setCell ⟨w.heap.size + 1 + 1, 8, none⟩ (.int .i64 (s1.sy : Int))).setCell ⟨w.heap.size + 1 + 1, 9, none⟩ (.string s1.title)).setCell ⟨w.heap.size + 1 + 1, 10, none⟩ (.slice ac3 s1.cells.length cc3)).setCell ⟨w.heap.size + 1 + 1, 11, none⟩ (.slice ah3 s1.hist.length dh3)) = x := ⟨_, rfl⟩
      have HC2 : Hid (Ch (· = w.heap.size + 2) x1 x2) := Lib.hid (by rw [← hx2]; exact (((((((((((Ch.set1' _ _ 0 _).trans (Ch.set1' _ _ 1 _) (fun _ h => .inl h)).trans (Ch.set1' _ _ 2 _) (fun _ h => .inl h)).trans (Ch.set1' _ _ 3 _) (fun _ h => .inl h)).trans (Ch.set1' _ _ 4 _) (fun _ h => .inl h)).trans (Ch.set1' _ _ 5 _) (fun _ h => .inl h)).trans (Ch.set1' _ _ 6 _) (fun _ h => .inl h)).trans (Ch.set1' _ _ 7 _) (fun _ h => .inl h)).trans (Ch.set1' _ _ 8 _) (fun _ h => .inl h)).trans (Ch.set1' _ _ 9 _) (fun _ h => .inl h)).trans (Ch.set1' _ _ 10 _) (fun _ h => .inl h)).trans (Ch.set1' _ _ 11 _) (fun _ h => .inl h))
      have t_0 : x2.cell? ⟨w.heap.size + 2, 0, none⟩ = some (.int .i64 (s1.w : Int)) := by rw [← hx2]; simp [go_sem, p6_0, p6_1, p6_2, p6_3, p6_4, p6_5, p6_6, p6_7, p6_8, p6_9, p6_10, p6_11, p6_l]
      have t_1 : x2.cell? ⟨w.heap.size + 2, 1, none⟩ = some (.int .i64 (s1.h : Int)) := by rw [← hx2]; simp [go_sem, p6_0, p6_1, p6_2, p6_3, p6_4, p6_5, p6_6, p6_7, p6_8, p6_9, p6_10, p6_11, p6_l]
      have t_2 : x2.cell? ⟨w.heap.size + 2, 2, none⟩ = some (.int .i64 (s1.x : Int)) := by rw [← hx2]; simp [go_sem, p6_0, p6_1, p6_2, p6_3, p6_4, p6_5, p6_6, p6_7, p6_8, p6_9, p6_10, p6_11, p6_l]
      have t_3 : x2.cell? ⟨w.heap.size + 2, 3, none⟩ = some (.int .i64 (s1.y : Int)) := by rw [← hx2]; simp [go_sem, p6_0, p6_1, p6_2, p6_3, p6_4, p6_5, p6_6, p6_7, p6_8, p6_9, p6_10, p6_11, p6_l]
      have t_4 : x2.cell? ⟨w.heap.size + 2, 4, none⟩ = some (.int .i64 (s1.look : Int)) := by rw [← hx2]; simp [go_sem, p6_0, p6_1, p6_2, p6_3, p6_4, p6_5, p6_6, p6_7, p6_8, p6_9, p6_10, p6_11, p6_l]
      have t_5 : x2.cell? ⟨w.heap.size + 2, 5, none⟩ = some (.int .i64 (s1.top : Int)) := by rw [← hx2]; simp [go_sem, p6_0, p6_1, p6_2, p6_3, p6_4, p6_5, p6_6, p6_7, p6_8, p6_9, p6_10, p6_11, p6_l]
      have t_6 : x2.cell? ⟨w.heap.size + 2, 6, none⟩ = some (.int .i64 (s1.bot : Int)) := by rw [← hx2]; simp [go_sem, p6_0, p6_1, p6_2, p6_3, p6_4, p6_5, p6_6, p6_7, p6_8, p6_9, p6_10, p6_11, p6_l]
      have t_7 : x2.cell? ⟨w.heap.size + 2, 7, none⟩ = some (.int .i64 (s1.sx : Int)) := by rw [← hx2]; simp [go_sem, p6_0, p6_1, p6_2, p6_3, p6_4, p6_5, p6_6, p6_7, p6_8, p6_9, p6_10, p6_11, p6_l]
      have t_8 : x2.cell? ⟨w.heap.size + 2, 8, none⟩ = some (.int .i64 (s1.sy : Int)) := by rw [← hx2]; simp [go_sem, p6_0, p6_1, p6_2, p6_3, p6_4, p6_5, p6_6, p6_7, p6_8, p6_9, p6_10, p6_11, p6_l]
      have t_9 : x2.cell? ⟨w.heap.size + 2, 9, none⟩ = some (.string s1.title) := by rw [← hx2]; simp [go_sem, p6_0, p6_1, p6_2, p6_3, p6_4, p6_5, p6_6, p6_7, p6_8, p6_9, p6_10, p6_11, p6_l]
      have t_10 : x2.cell? ⟨w.heap.size + 2, 10, none⟩ = some (.slice ac3 s1.cells.length cc3) := by rw [← hx2]; simp [go_sem, p6_0, p6_1, p6_2, p6_3, p6_4, p6_5, p6_6, p6_7, p6_8, p6_9, p6_10, p6_11, p6_l]
      have t_11 : x2.cell? ⟨w.heap.size + 2, 11, none⟩ = some (.slice ah3 s1.hist.length dh3) := by rw [← hx2]; simp [go_sem, p6_0, p6_1, p6_2, p6_3, p6_4, p6_5, p6_6, p6_7, p6_8, p6_9, p6_10, p6_11, p6_l]
      have hzx2 := HC2.out.size
      have t_l : w.heap.size + 2 < x2.heap.size := by omega
      have p8_0 : x2.cell? ⟨w.heap.size + 3, 0, none⟩ = some (.int .i64 0) := (HC2.out.cell (p := ⟨w.heap.size + 3, 0, none⟩) p7_l (by show ¬ w.heap.size + 3 = w.heap.size + 2; omega)).trans p7_0
      have p8_1 : x2.cell? ⟨w.heap.size + 3, 1, none⟩ = some (.slice none 0 0) := (HC2.out.cell (p := ⟨w.heap.size + 3, 1, none⟩) p7_l (by show ¬ w.heap.size + 3 = w.heap.size + 2; omega)).trans p7_1
      have p8_2 : x2.cell? ⟨w.heap.size + 3, 2, none⟩ = some (.bool false) := (HC2.out.cell (p := ⟨w.heap.size + 3, 2, none⟩) p7_l (by show ¬ w.heap.size + 3 = w.heap.size + 2; omega)).trans p7_2
      have p8_3 : x2.cell? ⟨w.heap.size + 3, 3, none⟩ = some (.string ⟨#[]⟩) := (HC2.out.cell (p := ⟨w.heap.size + 3, 3, none⟩) p7_l (by show ¬ w.heap.size + 3 = w.heap.size + 2; omega)).trans p7_3
      have p8_4 : x2.cell? ⟨w.heap.size + 3, 4, none⟩ = some (.string ⟨#[]⟩) := (HC2.out.cell (p := ⟨w.heap.size + 3, 4, none⟩) p7_l (by show ¬ w.heap.size + 3 = w.heap.size + 2; omega)).trans p7_4
      have p8_f : ∀ o, x2.frozen? ⟨w.heap.size + 3, o, none⟩ = false := fun o => (HC2.out.frozen (p := ⟨w.heap.size + 3, o, none⟩) p7_l (by show ¬ w.heap.size + 3 = w.heap.size + 2; omega)).trans (p7_f o)
      have p8_l : w.heap.size + 3 < x2.heap.size := by omega
      have hS2 : x2.cell? ⟨b, 0, none⟩ = some (.int .i64 (s1.w : Int)) ∧ x2.cell? ⟨b, 1, none⟩ = some (.int .i64 (s1.h : Int)) ∧ x2.cell? ⟨b, 2, none⟩ = some (.int .i64 (s1.x : Int)) ∧ x2.cell? ⟨b, 3, none⟩ = some (.int .i64 (s1.y : Int)) ∧ x2.cell? ⟨b, 4, none⟩ = some (.int .i64 (s1.look : Int)) ∧ x2.cell? ⟨b, 5, none⟩ = some (.int .i64 (s1.top : Int)) ∧ x2.cell? ⟨b, 6, none⟩ = some (.int .i64 (s1.bot : Int)) ∧ x2.cell? ⟨b, 7, none⟩ = some (.int .i64 (s1.sx : Int)) ∧ x2.cell? ⟨b, 8, none⟩ = some (.int .i64 (s1.sy : Int)) ∧ x2.cell? ⟨b, 9, none⟩ = some (.string s1.title) ∧ x2.cell? ⟨b, 10, none⟩ = some (.slice (some ⟨g1, 0, none⟩) s1.cells.length c1) ∧ x2.cell? ⟨b, 11, none⟩ = some (.slice a1 s1.hist.length d1) ∧ x2.cell? ⟨w1.heap.size, 0, none⟩ = some (.int .i64 q.state) ∧ x2.cell? ⟨w1.heap.size, 1, none⟩ = some (.slice ap2 q.args.length cp2) ∧ x2.cell? ⟨w1.heap.size, 2, none⟩ = some (.bool q.priv) ∧ x2.cell? ⟨w1.heap.size, 3, none⟩ = some (.string q.text) ∧ x2.cell? ⟨w1.heap.size, 4, none⟩ = some (.string q.utf) := ⟨(HC2.out.cell (p := ⟨b, 0, none⟩) HX1.out.lt (by show ¬ b = w.heap.size + 2; omega)).trans HX1.out.c0, (HC2.out.cell (p := ⟨b, 1, none⟩) HX1.out.lt (by show ¬ b = w.heap.size + 2; omega)).trans HX1.out.c1, (HC2.out.cell (p := ⟨b, 2, none⟩) HX1.out.lt (by show ¬ b = w.heap.size + 2; omega)).trans HX1.out.c2, (HC2.out.cell (p := ⟨b, 3, none⟩) HX1.out.lt (by show ¬ b = w.heap.size + 2; omega)).trans HX1.out.c3, (HC2.out.cell (p := ⟨b, 4, none⟩) HX1.out.lt (by show ¬ b = w.heap.size + 2; omega)).trans HX1.out.c4, (HC2.out.cell (p := ⟨b, 5, none⟩) HX1.out.lt (by show ¬ b = w.heap.size + 2; omega)).trans HX1.out.c5, (HC2.out.cell (p := ⟨b, 6, none⟩) HX1.out.lt (by show ¬ b = w.heap.size + 2; omega)).trans HX1.out.c6, (HC2.out.cell (p := ⟨b, 7, none⟩) HX1.out.lt (by show ¬ b = w.heap.size + 2; omega)).trans HX1.out.c7, (HC2.out.cell (p := ⟨b, 8, none⟩) HX1.out.lt (by show ¬ b = w.heap.size + 2; omega)).trans HX1.out.c8, (HC2.out.cell (p := ⟨b, 9, none⟩) HX1.out.lt (by show ¬ b = w.heap.size + 2; omega)).trans HX1.out.c9, (HC2.out.cell (p := ⟨b, 10, none⟩) HX1.out.lt (by show ¬ b = w.heap.size + 2; omega)).trans HX1.out.c10, (HC2.out.cell (p := ⟨b, 11, none⟩) HX1.out.lt (by show ¬ b = w.heap.size + 2; omega)).trans HX1.out.c11, (HC2.out.cell (p := ⟨w1.heap.size, 0, none⟩) (by show w1.heap.size < _; omega) (by show ¬ w1.heap.size = w.heap.size + 2; omega)).trans hSx.2.2.2.2.2.2.2.2.2.2.2.2.1, (HC2.out.cell (p := ⟨w1.heap.size, 1, none⟩) (by show w1.heap.size < _; omega) (by show ¬ w1.heap.size = w.heap.size + 2; omega)).trans hSx.2.2.2.2.2.2.2.2.2.2.2.2.2.1, (HC2.out.cell (p := ⟨w1.heap.size, 2, none⟩) (by show w1.heap.size < _; omega) (by show ¬ w1.heap.size = w.heap.size + 2; omega)).trans hSx.2.2.2.2.2.2.2.2.2.2.2.2.2.2.1, (HC2.out.cell (p := ⟨w1.heap.size, 3, none⟩) (by show w1.heap.size < _; omega) (by show ¬ w1.heap.size = w.heap.size + 2; omega)).trans hSx.2.2.2.2.2.2.2.2.2.2.2.2.2.2.2.1, (HC2.out.cell (p := ⟨w1.heap.size, 4, none⟩) (by show w1.heap.size < _; omega) (by show ¬ w1.heap.size = w.heap.size + 2; omega)).trans hSx.2.2.2.2.2.2.2.2.2.2.2.2.2.2.2.2⟩
      rw [hx2]
      clear hx2 hSx p6_0 p6_1 p6_2 p6_3 p6_4 p6_5 p6_6 p6_7 p6_8 p6_9 p6_10 p6_11 p6_f p6_l p7_0 p7_1 p7_2 p7_3 p7_4 p7_f p7_l
      refine hK.out _ _ (Or.inr hS2) ?_
      clear hK K'
      try simp only [Act.put,j1,j2,j3,j4,j5,j6]
      refine wpAnyG_one (i := 7) (by kernel_rfl) rfl hS2 (fun K' hK => ?_)
      simp only [j1,j2,j3]
      go_simp
      refine hK.out _ _ (Or.inl rfl) ?_
      clear hK K'
      try simp only [Act.put,j1,j2,j3,j4,j5,j6]
      refine wpAnyG_done (by kernel_rfl) ?_ _
      have nn : ¬ w.heap.size + 2 = w.heap.size + 3 := by omega
      have nm : ¬ w.heap.size + 3 = w.heap.size + 2 := by omega
      go_wp2_with fail
      refine bodyPost_ret (v := .tuple #[scrV s1 ac3 cc3 ah3 dh3, .agg #[.int .i64 q.state, .slice ap2 q.args.length cp2, .bool q.priv, .string q.text, .string q.utf]]) (by simp [results, Tryz.results51, scrV, go_sem, t_0, t_1, t_2, t_3, t_4, t_5, t_6, t_7, t_8, t_9, t_10, t_11, t_l, p8_0, p8_1, p8_2, p8_3, p8_4, p8_l, nn, nm]) rfl ?_
      rw [HACTS.out, HQ.out, HE.out]
      have hfin : ∀ wz, Ch (· = w.heap.size + 3) x2 wz → FeedR s1 q w (.returned (.tuple #[scrV s1 ac3 cc3 ah3 dh3, .agg #[.int .i64 q.state, .slice ap2 q.args.length cp2, .bool q.priv, .string q.text, .string q.utf]])) wz := fun wz hc => by
        have h1 : Below w.heap.size w x1 := (((HB0.out.trans (HB1.out.mono (by omega))).trans (HBW1.out.mono (by omega))).trans (HBW.out.mono (by omega))).trans (HB3x.out.mono (by omega))
        have h2 : Ch (fun k => k = w.heap.size + 2 ∨ k = w.heap.size + 3) x1 wz := (HC2.out.mono (fun i h => .inl (.inl h))).trans hc (fun i h => .inl (.inr h))
        have hfb := FreshIn.blks HF.out
        have f1 := ((HF.out.keepB HBW1.out).keepB HBW.out).keepB HB3x.out
        have fc := FreshIn.blks HF3.out.row
        have fh := HF3.out.win.blk
        refine ⟨ac3, cc3, ah3, dh3, ap2, cp2, rfl, (HF3.out.low (by omega)).ch h2 (fun k hk e => by have := (fc k hk).1; omega) (fun k hk e => by have := (fh k hk).1; omega), (f1.ch h2 (fun k hk e => by have := (hfb k hk).1; omega)).mono (by omega) (Nat.le_refl _), fun k hk => ⟨fun h => ?_, fun h => ?_⟩, h1.trans (h2.below (by omega) (fun k h => by omega))⟩
        · have := (hfb k hk).2; have := (fc k h).1; omega
        · have := (hfb k hk).2; have := (fh k h).1; omega
      refine hfin _ ?_
      exact ((((Ch.set1' _ _ 0 _).trans (Ch.set1' _ _ 1 _) (fun _ h => .inl h)).trans (Ch.set1' _ _ 2 _) (fun _ h => .inl h)).trans (Ch.set1' _ _ 3 _) (fun _ h => .inl h)).trans (Ch.set1' _ _ 4 _) (fun _ h => .inl h)
end
section
open Go.RowKit
theorem SrcAt.alloc {b K c : Nat} {a : Option Addr} {xs : List UInt8} {w : World} (h : SrcAt b a c xs K w) (o : Obj) : SrcAt b a c xs K (w.alloc o) := h.below ((Below.refl _ _).alloc (Nat.le_refl _) _)
theorem Mid.alloc {lo hi : Nat} {a w : World} (h : Mid lo hi a w) (o : Obj) : Mid lo hi a (w.alloc o) := h.trans (Mid.of_below _ _ ((Below.refl _ _).alloc (Nat.le_refl _) _))
theorem l00Source_c (a : Option Addr) (c : Nat) (xs : List UInt8) (w : World) (ha : Sl byteE 1 w a xs) (hl : xs.length ≤ 1048576) :
    Calls Tryz.prog 22 #[.slice a xs.length c] w fun e w' => e = .returned (.pointer (some ⟨w.heap.size, 0, none⟩)) ∧ SrcAt w.heap.size a c xs 0 w' ∧ Below w.heap.size w w' := by
  have HA := Lib.hid ha
  clear ha
  have hm : xs.length % 1000 < 1000 := Nat.mod_lt _ (by omega)
  have HM : Hid (((xs.length : Int) % 1000) = ((xs.length % 1000 : Nat) : Int)) := Lib.hid (by omega)
  go_enter Tryz.func22, Tryz.ntmps22
  go_wp2_with fail
  go_ret
  rw [HM.out]
  generalize xs.length % 1000 = q at hm ⊢
  refine ⟨rfl, ⟨0, q, hl, Nat.le_refl _, by omega, World.cell?_alloc_new _ _ _ _, World.cell?_alloc_new _ _ _ _, World.cell?_alloc_new _ _ _ _, fun o => by simp [go_sem], HA.out.alloc _, fun b' o e => ?_, by simp⟩, (Below.refl _ _).alloc (Nat.le_refl _) _⟩
  rcases HA.out with h | ⟨b2, o2, he, hlt, _⟩
  · exact .inl h
  · rw [he] at e
    cases e
    exact .inr (by omega)
def outL : List ByteArray := [⟨#[116, 101, 120, 116]⟩, ⟨#[97]⟩, ⟨#[13, 10]⟩, ⟨#[10]⟩, ⟨#[8]⟩, ⟨#[9]⟩, ⟨#[27, 91, 72]⟩, ⟨#[27, 91, 50, 74]⟩, ⟨#[27, 91, 75]⟩, ⟨#[27, 91, 49, 59, 51, 49, 109]⟩, ⟨#[27, 91, 48, 109]⟩, ⟨#[27, 91, 51, 59, 50, 72]⟩, ⟨#[27, 91, 50, 65]⟩, ⟨#[27, 91, 66]⟩, ⟨#[27, 91, 53, 67]⟩, ⟨#[27, 91, 68]⟩, ⟨#[27, 91, 50, 59, 52, 114]⟩, ⟨#[27, 91, 114]⟩, ⟨#[27, 91, 76]⟩, ⟨#[27, 91, 50, 77]⟩, ⟨#[27, 55]⟩, ⟨#[27, 56]⟩, ⟨#[27, 68]⟩, ⟨#[27, 77]⟩, ⟨#[27, 69]⟩, ⟨#[27, 99]⟩, ⟨#[27, 93, 48, 59, 116, 105, 116, 108, 101, 7]⟩, ⟨#[27, 93, 120, 27, 92]⟩, ⟨#[195, 164]⟩, ⟨#[226, 130, 172]⟩, ⟨#[240, 159, 152, 128]⟩, ⟨#[128]⟩, ⟨#[226, 40]⟩, ⟨#[27, 91, 63, 50, 53, 104]⟩, ⟨#[27, 91, 49, 59, 50, 59, 51, 59, 52, 59, 53, 59, 54, 59, 55, 59, 56, 59, 57, 109]⟩, ⟨#[27, 91, 57, 57, 57, 57, 57, 65]⟩, ⟨#[27, 91, 49, 36, 120]⟩, ⟨#[7]⟩, ⟨#[27, 91, 83]⟩, ⟨#[27, 91, 84]⟩, ⟨#[27, 91, 49, 74]⟩, ⟨#[27, 91, 49, 75]⟩, ⟨#[119, 114, 97, 112, 32, 97, 114, 111, 117, 110, 100, 32, 105, 116]⟩]
theorem outL_size : ∀ s ∈ outL, 1 ≤ s.size ∧ s.size ≤ 20 := by
  have h : outL.all (fun s => decide (1 ≤ s.size ∧ s.size ≤ 20)) = true := by decide
  intro s hs
  simpa using (List.all_eq_true.1 h) s hs
def TextR (b : Nat) (a : Option Addr) (c : Nat) (xs : List UInt8) (K : Nat) (P : ByteArray → Prop) (w : World) (e : Ending) (w' : World) : Prop := ∃ s : ByteArray, P s ∧ e = .returned (.string s) ∧ SrcAt b a c xs K w' ∧ Mid b (b + 1) w w'
theorem srcOutput_c (b : Nat) (a : Option Addr) (c : Nat) (xs : List UInt8) (K : Nat) (w : World) (h : SrcAt b a c xs K w) (hK : K ≤ 1000000000) :
    Calls Tryz.prog 42 #[.pointer (some ⟨b, 0, none⟩)] w (TextR b a c xs (K + 9) (fun s => 1 ≤ s.size ∧ s.size ≤ 200) w) := by
  have HN := Lib.hid (srcNext_c b a c xs K 8 w h (by omega) (by omega) (by omega))
  have hb0 : b < w.heap.size := h.lt
  clear h
  go_enter Tryz.func42, Tryz.ntmps42
  go_wp2_with fail
  refine HN.out.mono ?_
  rintro e w1 ⟨m, hm, rfl, hs1, hm1⟩
  have ew : IntKind.i64.wrap (1 + (m : Int)) = 1 + (m : Int) := IntWalk.i64_in _ ⟨by omega, by omega⟩
  have HS1 := Lib.hid hs1
  have HM1 := Lib.hid hm1
  clear hs1 hm1
  go_wp2_with fail
  go_loopw [3, 4] (fun ov iv wr => ∃ (s : ByteArray) (i : Nat), ov = .string s ∧ iv = .int .i64 i ∧ i ≤ 8 ∧ s.size + 20 * i ≤ 160 ∧ Hid (i = 0 → 1 ≤ s.size) ∧ SrcAt b a c xs (K + 9 - i) wr ∧ Mid b (b + 1) w wr) (fun _ iv _ => (intOf iv).toNat)
  case atStart => exact ⟨⟨#[]⟩, 1 + m, rfl, (by first | rfl | (simp) | (congr 1; omega)), by omega, (by show 0 + _ ≤ _; omega), Lib.hid (fun h => by omega), HS1.out.mono (by omega), HM1.out⟩
  case round =>
    obtain ⟨s, i, rfl, rfl, hi8, hsz, hpos, hsrc, hmid⟩ := hrel
    have HP := hpos
    have HS := Lib.hid hsrc
    have HM := Lib.hid hmid
    have hz := hmid.size
    clear hpos hsrc hmid
    by_cases h0 : 0 < i
    · have h0' : (0 : Int) < (i : Int) := by omega
      have ei : IntKind.i64.wrap ((i : Int) - 1) = (i : Int) - 1 := IntWalk.i64_in _ ⟨by omega, by omega⟩
      have HSa := Lib.hid (HS.out.alloc (.cells #[.string ⟨#[116, 101, 120, 116]⟩, .string ⟨#[97]⟩, .string ⟨#[13, 10]⟩, .string ⟨#[10]⟩, .string ⟨#[8]⟩, .string ⟨#[9]⟩, .string ⟨#[27, 91, 72]⟩, .string ⟨#[27, 91, 50, 74]⟩, .string ⟨#[27, 91, 75]⟩, .string ⟨#[27, 91, 49, 59, 51, 49, 109]⟩, .string ⟨#[27, 91, 48, 109]⟩, .string ⟨#[27, 91, 51, 59, 50, 72]⟩, .string ⟨#[27, 91, 50, 65]⟩, .string ⟨#[27, 91, 66]⟩, .string ⟨#[27, 91, 53, 67]⟩, .string ⟨#[27, 91, 68]⟩, .string ⟨#[27, 91, 50, 59, 52, 114]⟩, .string ⟨#[27, 91, 114]⟩, .string ⟨#[27, 91, 76]⟩, .string ⟨#[27, 91, 50, 77]⟩, .string ⟨#[27, 55]⟩, .string ⟨#[27, 56]⟩, .string ⟨#[27, 68]⟩, .string ⟨#[27, 77]⟩, .string ⟨#[27, 69]⟩, .string ⟨#[27, 99]⟩, .string ⟨#[27, 93, 48, 59, 116, 105, 116, 108, 101, 7]⟩, .string ⟨#[27, 93, 120, 27, 92]⟩, .string ⟨#[195, 164]⟩, .string ⟨#[226, 130, 172]⟩, .string ⟨#[240, 159, 152, 128]⟩, .string ⟨#[128]⟩, .string ⟨#[226, 40]⟩, .string ⟨#[27, 91, 63, 50, 53, 104]⟩, .string ⟨#[27, 91, 49, 59, 50, 59, 51, 59, 52, 59, 53, 59, 54, 59, 55, 59, 56, 59, 57, 109]⟩, .string ⟨#[27, 91, 57, 57, 57, 57, 57, 65]⟩, .string ⟨#[27, 91, 49, 36, 120]⟩, .string ⟨#[7]⟩, .string ⟨#[27, 91, 83]⟩, .string ⟨#[27, 91, 84]⟩, .string ⟨#[27, 91, 49, 74]⟩, .string ⟨#[27, 91, 49, 75]⟩, .string ⟨#[119, 114, 97, 112, 32, 97, 114, 111, 117, 110, 100, 32, 105, 116]⟩] 9))
      have HL : Hid (Sl strE 1 (wr.alloc (.cells #[.string ⟨#[116, 101, 120, 116]⟩, .string ⟨#[97]⟩, .string ⟨#[13, 10]⟩, .string ⟨#[10]⟩, .string ⟨#[8]⟩, .string ⟨#[9]⟩, .string ⟨#[27, 91, 72]⟩, .string ⟨#[27, 91, 50, 74]⟩, .string ⟨#[27, 91, 75]⟩, .string ⟨#[27, 91, 49, 59, 51, 49, 109]⟩, .string ⟨#[27, 91, 48, 109]⟩, .string ⟨#[27, 91, 51, 59, 50, 72]⟩, .string ⟨#[27, 91, 50, 65]⟩, .string ⟨#[27, 91, 66]⟩, .string ⟨#[27, 91, 53, 67]⟩, .string ⟨#[27, 91, 68]⟩, .string ⟨#[27, 91, 50, 59, 52, 114]⟩, .string ⟨#[27, 91, 114]⟩, .string ⟨#[27, 91, 76]⟩, .string ⟨#[27, 91, 50, 77]⟩, .string ⟨#[27, 55]⟩, .string ⟨#[27, 56]⟩, .string ⟨#[27, 68]⟩, .string ⟨#[27, 77]⟩, .string ⟨#[27, 69]⟩, .string ⟨#[27, 99]⟩, .string ⟨#[27, 93, 48, 59, 116, 105, 116, 108, 101, 7]⟩, .string ⟨#[27, 93, 120, 27, 92]⟩, .string ⟨#[195, 164]⟩, .string ⟨#[226, 130, 172]⟩, .string ⟨#[240, 159, 152, 128]⟩, .string ⟨#[128]⟩, .string ⟨#[226, 40]⟩, .string ⟨#[27, 91, 63, 50, 53, 104]⟩, .string ⟨#[27, 91, 49, 59, 50, 59, 51, 59, 52, 59, 53, 59, 54, 59, 55, 59, 56, 59, 57, 109]⟩, .string ⟨#[27, 91, 57, 57, 57, 57, 57, 65]⟩, .string ⟨#[27, 91, 49, 36, 120]⟩, .string ⟨#[7]⟩, .string ⟨#[27, 91, 83]⟩, .string ⟨#[27, 91, 84]⟩, .string ⟨#[27, 91, 49, 74]⟩, .string ⟨#[27, 91, 49, 75]⟩, .string ⟨#[119, 114, 97, 112, 32, 97, 114, 111, 117, 110, 100, 32, 105, 116]⟩] 9)) (some ⟨wr.heap.size, 0, none⟩) outL) := Lib.hid (Sl.boxM (enc := strE) (sz := 1) (fun _ => rfl) outL #[.string ⟨#[116, 101, 120, 116]⟩, .string ⟨#[97]⟩, .string ⟨#[13, 10]⟩, .string ⟨#[10]⟩, .string ⟨#[8]⟩, .string ⟨#[9]⟩, .string ⟨#[27, 91, 72]⟩, .string ⟨#[27, 91, 50, 74]⟩, .string ⟨#[27, 91, 75]⟩, .string ⟨#[27, 91, 49, 59, 51, 49, 109]⟩, .string ⟨#[27, 91, 48, 109]⟩, .string ⟨#[27, 91, 51, 59, 50, 72]⟩, .string ⟨#[27, 91, 50, 65]⟩, .string ⟨#[27, 91, 66]⟩, .string ⟨#[27, 91, 53, 67]⟩, .string ⟨#[27, 91, 68]⟩, .string ⟨#[27, 91, 50, 59, 52, 114]⟩, .string ⟨#[27, 91, 114]⟩, .string ⟨#[27, 91, 76]⟩, .string ⟨#[27, 91, 50, 77]⟩, .string ⟨#[27, 55]⟩, .string ⟨#[27, 56]⟩, .string ⟨#[27, 68]⟩, .string ⟨#[27, 77]⟩, .string ⟨#[27, 69]⟩, .string ⟨#[27, 99]⟩, .string ⟨#[27, 93, 48, 59, 116, 105, 116, 108, 101, 7]⟩, .string ⟨#[27, 93, 120, 27, 92]⟩, .string ⟨#[195, 164]⟩, .string ⟨#[226, 130, 172]⟩, .string ⟨#[240, 159, 152, 128]⟩, .string ⟨#[128]⟩, .string ⟨#[226, 40]⟩, .string ⟨#[27, 91, 63, 50, 53, 104]⟩, .string ⟨#[27, 91, 49, 59, 50, 59, 51, 59, 52, 59, 53, 59, 54, 59, 55, 59, 56, 59, 57, 109]⟩, .string ⟨#[27, 91, 57, 57, 57, 57, 57, 65]⟩, .string ⟨#[27, 91, 49, 36, 120]⟩, .string ⟨#[7]⟩, .string ⟨#[27, 91, 83]⟩, .string ⟨#[27, 91, 84]⟩, .string ⟨#[27, 91, 49, 74]⟩, .string ⟨#[27, 91, 49, 75]⟩, .string ⟨#[119, 114, 97, 112, 32, 97, 114, 111, 117, 110, 100, 32, 105, 116]⟩] 9 rfl wr.heap.size rfl)
      go_wp2_with fail
      refine (srcPick_c b a c xs (K + 9 - i) (some ⟨wr.heap.size, 0, none⟩) 43 outL _ HSa.out (by omega) HL.out (fun b' o h => by cases h; omega) (by decide) (by decide)).mono ?_
      rintro e w2 ⟨t, ht, rfl, hs2, hm2⟩
      have hts := outL_size t ht
      have HS2 := Lib.hid hs2
      have HM2 : Hid (Mid b (b + 1) w w2) := (HM.out.alloc _).trans hm2
      have hsize : (s ++ t).size = s.size + t.size := ByteArray.size_append
      have HSZ := Lib.hid hsize
      clear hs2 hm2 ht HSa HL hsize
      go_wp2_with fail
      go_roundw
      case rel => exact ⟨s ++ t, i - 1, rfl, (by congr 1; omega), by omega, (by rw [HSZ.out]; omega), Lib.hid (fun _ => by rw [HSZ.out]; omega), HS2.out.mono (by omega), HM2.out⟩
      case measure => simp [intOf]; omega
    · obtain rfl : i = 0 := by omega
      go_wp2_with fail
      go_ret
      exact ⟨s, ⟨by first | exact HP.out rfl | exact HP.out trivial, by omega⟩, rfl, HS.out, HM.out⟩
end
section
open Go.RowKit
section
variable {P : Program} {md : Region.Mode} {ops : Array Oper} {Q : Exit → Act → World → Prop} {S : World → Prop} {ex : Nat → Bool}
theorem wpAnyG_oneX {i : Nat} {o : Oper} {fuel : Nat} {listed : Array Bool} {a : Act} {w : World} (hr : Region.ready md ops listed = [i]) (ho : ops[i]? = some o) (hx : ex i = true)
    (h : ∀ K' : Act → World → Prop, Shut (∀ a w, wpAnyG P md ops Q S ex fuel (listed.setIfInBounds i true) a w → K' a w) → if Region.wanted o (yielded ops a.tmps) = true then Oper.wp P o a w K' Q else K' (a.put o.dst undef) w) : wpAnyG P md ops Q S ex (fuel + 1) listed a w :=
  ⟨fun h0 => (by rw [hr] at h0; cases h0), fun j hj => by
    rw [hr] at hj
    obtain rfl : j = i := by simpa using hj
    exact wpOp_step ho (fun K' hK => h K' (fun a w h2 => hK a w ⟨.inl hx, h2⟩))⟩
end
structure DrS (b : Nat) (a : Option Addr) (c : Nat) (xs : List UInt8) (K lo X Y : Nat) (s : Scr) (ac : Option Addr) (cc : Nat) (ah : Option Addr) (dh : Nat) (p : PV) (ap : Option Addr) (cp : Nat) (w : World) : Prop where
  sc : ScrF lo s ac cc ah dh w
  ok : ScrOK s
  pv : PvOK p
  ar : FreshIn intE 3 1 lo w.heap.size (.slice ap p.args.length cp) p.args w
  src : SrcAt b a c xs K w
  x0 : w.cell? ⟨X, 0, none⟩ = some (.int .i64 (s.w : Int))
  x1 : w.cell? ⟨X, 1, none⟩ = some (.int .i64 (s.h : Int))
  x2 : w.cell? ⟨X, 2, none⟩ = some (.int .i64 (s.x : Int))
  x3 : w.cell? ⟨X, 3, none⟩ = some (.int .i64 (s.y : Int))
  x4 : w.cell? ⟨X, 4, none⟩ = some (.int .i64 (s.look : Int))
  x5 : w.cell? ⟨X, 5, none⟩ = some (.int .i64 (s.top : Int))
  x6 : w.cell? ⟨X, 6, none⟩ = some (.int .i64 (s.bot : Int))
  x7 : w.cell? ⟨X, 7, none⟩ = some (.int .i64 (s.sx : Int))
  x8 : w.cell? ⟨X, 8, none⟩ = some (.int .i64 (s.sy : Int))
  x9 : w.cell? ⟨X, 9, none⟩ = some (.string s.title)
  x10 : w.cell? ⟨X, 10, none⟩ = some (.slice ac s.cells.length cc)
  x11 : w.cell? ⟨X, 11, none⟩ = some (.slice ah s.hist.length dh)
  y0 : w.cell? ⟨Y, 0, none⟩ = some (.int .i64 p.state)
  y1 : w.cell? ⟨Y, 1, none⟩ = some (.slice ap p.args.length cp)
  y2 : w.cell? ⟨Y, 2, none⟩ = some (.bool p.priv)
  y3 : w.cell? ⟨Y, 3, none⟩ = some (.string p.text)
  y4 : w.cell? ⟨Y, 4, none⟩ = some (.string p.utf)
  xf : ∀ o, w.frozen? ⟨X, o, none⟩ = false
  yf : ∀ o, w.frozen? ⟨Y, o, none⟩ = false
  xl : lo ≤ X ∧ X < w.heap.size
  yl : lo ≤ Y ∧ Y < w.heap.size
  xy : X ≠ Y
  bl : b < lo
  nx : ∀ k, k ∈ blkOf ac ∨ k ∈ blkOf ah ∨ k ∈ blkOf ap → k ≠ X ∧ k ≠ Y
theorem SrcAt.ch {b K c : Nat} {a : Option Addr} {xs : List UInt8} {w w' : World} {M : Nat → Prop} (h : SrcAt b a c xs K w) (hc : Ch M w w') (hb : ¬ M b) (ha : ∀ b' o, a = some ⟨b', o, none⟩ → xs = [] ∨ ¬ M b') : SrcAt b a c xs K w' := by
  obtain ⟨q, seed, h1, h2, h3, c0, c1, c2, hf, hs, hne, hb0⟩ := h
  refine ⟨q, seed, h1, h2, h3, (hc.cell (p := ⟨b, 0, none⟩) hb0 hb).trans c0, (hc.cell (p := ⟨b, 1, none⟩) hb0 hb).trans c1, (hc.cell (p := ⟨b, 2, none⟩) hb0 hb).trans c2, fun o => (hc.frozen (p := ⟨b, o, none⟩) hb0 hb).trans (hf o), ?_, hne, Nat.lt_of_lt_of_le hb0 hc.size⟩
  by_cases hx : xs = []
  · exact .inl hx
  · refine hs.ch hc (fun k hk => ?_)
    cases a with
    | none => simp [blkOf] at hk
    | some p =>
      simp only [blkOf, List.mem_singleton] at hk
      subst hk
      obtain ⟨pb, po, ps⟩ := p
      rcases hs with hs | ⟨b2, o2, he2, _⟩
      · exact absurd hs hx
      · cases he2
        exact (ha pb po rfl).resolve_left hx
theorem DrS.ch {b : Nat} {a : Option Addr} {c : Nat} {xs : List UInt8} {K K' lo X Y : Nat} {s : Scr} {ac : Option Addr} {cc : Nat} {ah : Option Addr} {dh : Nat} {p : PV} {ap : Option Addr} {cp : Nat} {w w' : World} (h : DrS b a c xs K lo X Y s ac cc ah dh p ap cp w) (hc : Ch (· = b) w w') (hs : SrcAt b a c xs K' w') : DrS b a c xs K' lo X Y s ac cc ah dh p ap cp w' := by
  have hb := h.bl
  have hX := h.xl
  have hY := h.yl
  have f1 := FreshIn.blks h.sc.row
  have f2 := h.sc.win.blk
  have f3 := FreshIn.blks h.ar
  have nX : ¬ X = b := by omega
  have nY : ¬ Y = b := by omega
  have hz := hc.size
  exact ⟨h.sc.ch hc (fun k hk e => by have := (f1 k hk).1; omega) (fun k hk e => by have := (f2 k hk).1; omega), h.ok, h.pv, h.ar.ch hc (fun k hk e => by have := (f3 k hk).1; omega), hs, (hc.cell (p := ⟨X, 0, none⟩) hX.2 nX).trans h.x0, (hc.cell (p := ⟨X, 1, none⟩) hX.2 nX).trans h.x1, (hc.cell (p := ⟨X, 2, none⟩) hX.2 nX).trans h.x2, (hc.cell (p := ⟨X, 3, none⟩) hX.2 nX).trans h.x3, (hc.cell (p := ⟨X, 4, none⟩) hX.2 nX).trans h.x4, (hc.cell (p := ⟨X, 5, none⟩) hX.2 nX).trans h.x5, (hc.cell (p := ⟨X, 6, none⟩) hX.2 nX).trans h.x6, (hc.cell (p := ⟨X, 7, none⟩) hX.2 nX).trans h.x7, (hc.cell (p := ⟨X, 8, none⟩) hX.2 nX).trans h.x8, (hc.cell (p := ⟨X, 9, none⟩) hX.2 nX).trans h.x9, (hc.cell (p := ⟨X, 10, none⟩) hX.2 nX).trans h.x10, (hc.cell (p := ⟨X, 11, none⟩) hX.2 nX).trans h.x11, (hc.cell (p := ⟨Y, 0, none⟩) hY.2 nY).trans h.y0, (hc.cell (p := ⟨Y, 1, none⟩) hY.2 nY).trans h.y1, (hc.cell (p := ⟨Y, 2, none⟩) hY.2 nY).trans h.y2, (hc.cell (p := ⟨Y, 3, none⟩) hY.2 nY).trans h.y3, (hc.cell (p := ⟨Y, 4, none⟩) hY.2 nY).trans h.y4, fun o => (hc.frozen (p := ⟨X, o, none⟩) hX.2 nX).trans (h.xf o), fun o => (hc.frozen (p := ⟨Y, o, none⟩) hY.2 nY).trans (h.yf o), ⟨hX.1, by omega⟩, ⟨hY.1, by omega⟩, h.xy, hb, h.nx⟩
theorem srcScreen_c (b : Nat) (a : Option Addr) (c : Nat) (xs : List UInt8) (w : World) (h : SrcAt b a c xs 0 w) :
    Calls Tryz.prog 23 #[.pointer (some ⟨b, 0, none⟩)] w fun e w' => ∃ s, ScrOK s ∧ Below b w w' ∧ ∃ ac cc ah dh, e = .returned (scrV s ac cc ah dh) ∧ ScrF w.heap.size s ac cc ah dh w' := by
  have hb0 : b < w.heap.size := h.lt
  have hfar := h.far
  obtain ⟨W0, hW0⟩ : ∃ x, w.alloc (.cells #[.int .i64 0, .int .i64 0, .int .i64 0, .int .i64 0, .int .i64 0, .int .i64 0, .int .i64 0, .int .i64 0, .int .i64 0, .string ⟨#[]⟩, .slice none 0 0, .slice none 0 0] 26) = x := ⟨_, rfl⟩
  have HB0 : Hid (Below w.heap.size w W0) := Lib.hid (by rw [← hW0]; exact (Below.refl _ _).alloc (Nat.le_refl _) _)
  have hz0 : w.heap.size < W0.heap.size := by rw [← hW0]; simp
  have z_0 : W0.cell? ⟨w.heap.size, 0, none⟩ = some (.int .i64 0) := by rw [← hW0]; simp [go_sem]
  have z_1 : W0.cell? ⟨w.heap.size, 1, none⟩ = some (.int .i64 0) := by rw [← hW0]; simp [go_sem]
  have z_2 : W0.cell? ⟨w.heap.size, 2, none⟩ = some (.int .i64 0) := by rw [← hW0]; simp [go_sem]
  have z_3 : W0.cell? ⟨w.heap.size, 3, none⟩ = some (.int .i64 0) := by rw [← hW0]; simp [go_sem]
  have z_4 : W0.cell? ⟨w.heap.size, 4, none⟩ = some (.int .i64 0) := by rw [← hW0]; simp [go_sem]
  have z_5 : W0.cell? ⟨w.heap.size, 5, none⟩ = some (.int .i64 0) := by rw [← hW0]; simp [go_sem]
  have z_6 : W0.cell? ⟨w.heap.size, 6, none⟩ = some (.int .i64 0) := by rw [← hW0]; simp [go_sem]
  have z_7 : W0.cell? ⟨w.heap.size, 7, none⟩ = some (.int .i64 0) := by rw [← hW0]; simp [go_sem]
  have z_8 : W0.cell? ⟨w.heap.size, 8, none⟩ = some (.int .i64 0) := by rw [← hW0]; simp [go_sem]
  have z_9 : W0.cell? ⟨w.heap.size, 9, none⟩ = some (.string ⟨#[]⟩) := by rw [← hW0]; simp [go_sem]
  have z_10 : W0.cell? ⟨w.heap.size, 10, none⟩ = some (.slice none 0 0) := by rw [← hW0]; simp [go_sem]
  have z_11 : W0.cell? ⟨w.heap.size, 11, none⟩ = some (.slice none 0 0) := by rw [← hW0]; simp [go_sem]
  have z_f : ∀ o, W0.frozen? ⟨w.heap.size, o, none⟩ = false := fun o => by rw [← hW0]; simp [go_sem]
  have HN := Lib.hid (srcNext_c b a c xs 0 12 W0 (h.below HB0.out) (by omega) (by omega) (by omega))
  clear h
  go_enter Tryz.func23, Tryz.ntmps23
  go_upto_region 1 with fail
  clear hW0
  go_wp2_with fail
  refine HN.out.mono ?_
  rintro e w1 ⟨m1, hm1, rfl, hs1, hd1⟩
  have HS1 := Lib.hid hs1
  have HD1 := Lib.hid hd1
  have hz1 := hd1.size
  have HN2 := Lib.hid (srcNext_c b a c xs 1 6 w1 hs1 (by omega) (by omega) (by omega))
  clear hs1 hd1
  go_wp2_with fail
  refine HN2.out.mono ?_
  rintro e w2 ⟨m2, hm2, rfl, hs2, hd2⟩
  have HS2 := Lib.hid hs2
  have HD2 := Lib.hid hd2
  have hz2 := hd2.size
  clear hs2 hd2
  obtain ⟨n1, hn1⟩ : ∃ n, 2 + m1 = n := ⟨_, rfl⟩
  obtain ⟨n2, hn2⟩ : ∃ n, 2 + m2 = n := ⟨_, rfl⟩
  have hi1 : (2 : Int) + (m1 : Int) = (n1 : Int) := by omega
  have hi2 : (2 : Int) + (m2 : Int) = (n2 : Int) := by omega
  go_wp2_with fail
  refine (l04New_c n1 n2 _ (by omega) (by omega) (by omega)).mono ?_
  rintro e w3 ⟨ac3, cc3, ah3, dh3, rfl, hf3, hb3⟩
  have HF3 := Lib.hid hf3
  have HB3 := Lib.hid hb3
  have hz3 := hb3.size
  unfold scrV
  obtain ⟨X, hX⟩ : ∃ x, w3.heap.size = x := ⟨_, rfl⟩
  obtain ⟨W3, hW3⟩ : ∃ x, w3.alloc (.cells #[.int .i64 ((newS n1 n2).w : Int), .int .i64 ((newS n1 n2).h : Int), .int .i64 ((newS n1 n2).x : Int), .int .i64 ((newS n1 n2).y : Int), .int .i64 ((newS n1 n2).look : Int), .int .i64 ((newS n1 n2).top : Int), .int .i64 ((newS n1 n2).bot : Int), .int .i64 ((newS n1 n2).sx : Int), .int .i64 ((newS n1 n2).sy : Int), .string (newS n1 n2).title, .slice ac3 (newS n1 n2).cells.length cc3, .slice ah3 (newS n1 n2).hist.length dh3] 26) = x := ⟨_, rfl⟩
  have HB3' : Hid (Below w3.heap.size w3 W3) := Lib.hid (by rw [← hW3]; exact (Below.refl _ _).alloc (Nat.le_refl _) _)
  have hX3 : X < W3.heap.size := by rw [← hW3, ← hX]; simp
  have x_0 : W3.cell? ⟨X, 0, none⟩ = some (.int .i64 ((newS n1 n2).w : Int)) := by rw [← hW3, ← hX]; simp [go_sem]
  have x_1 : W3.cell? ⟨X, 1, none⟩ = some (.int .i64 ((newS n1 n2).h : Int)) := by rw [← hW3, ← hX]; simp [go_sem]
  have x_2 : W3.cell? ⟨X, 2, none⟩ = some (.int .i64 ((newS n1 n2).x : Int)) := by rw [← hW3, ← hX]; simp [go_sem]
  have x_3 : W3.cell? ⟨X, 3, none⟩ = some (.int .i64 ((newS n1 n2).y : Int)) := by rw [← hW3, ← hX]; simp [go_sem]
  have x_4 : W3.cell? ⟨X, 4, none⟩ = some (.int .i64 ((newS n1 n2).look : Int)) := by rw [← hW3, ← hX]; simp [go_sem]
  have x_5 : W3.cell? ⟨X, 5, none⟩ = some (.int .i64 ((newS n1 n2).top : Int)) := by rw [← hW3, ← hX]; simp [go_sem]
  have x_6 : W3.cell? ⟨X, 6, none⟩ = some (.int .i64 ((newS n1 n2).bot : Int)) := by rw [← hW3, ← hX]; simp [go_sem]
  have x_7 : W3.cell? ⟨X, 7, none⟩ = some (.int .i64 ((newS n1 n2).sx : Int)) := by rw [← hW3, ← hX]; simp [go_sem]
  have x_8 : W3.cell? ⟨X, 8, none⟩ = some (.int .i64 ((newS n1 n2).sy : Int)) := by rw [← hW3, ← hX]; simp [go_sem]
  have x_9 : W3.cell? ⟨X, 9, none⟩ = some (.string (newS n1 n2).title) := by rw [← hW3, ← hX]; simp [go_sem]
  have x_10 : W3.cell? ⟨X, 10, none⟩ = some (.slice ac3 (newS n1 n2).cells.length cc3) := by rw [← hW3, ← hX]; simp [go_sem]
  have x_11 : W3.cell? ⟨X, 11, none⟩ = some (.slice ah3 (newS n1 n2).hist.length dh3) := by rw [← hW3, ← hX]; simp [go_sem]
  have x_f : ∀ o, W3.frozen? ⟨X, o, none⟩ = false := fun o => by rw [← hW3, ← hX]; simp [go_sem]
  clear hf3 hb3 hi1 hi2
  go_upto_region 2 with fail
  clear hW3
  go_upto_region 3 with fail
  obtain ⟨Y, hY⟩ : ∃ x, W3.heap.size + 1 = x := ⟨_, rfl⟩
  obtain ⟨W5, hW5⟩ : ∃ x, (W3.alloc (.cells #[] 3)).alloc (.cells #[.int .i64 0, .slice (some ⟨W3.heap.size, 0, none⟩) 0 0, .bool false, .string ⟨#[]⟩, .string ⟨#[]⟩] 42) = x := ⟨_, rfl⟩
  rw [hW5, hY]
  have HB5 : Hid (Below W3.heap.size W3 W5) := Lib.hid (by rw [← hW5]; exact ((Below.refl _ _).alloc (Nat.le_refl _) _).alloc (by simp) _)
  have hY5 : Y < W5.heap.size := by rw [← hW5, ← hY]; simp
  have HAR : Hid (FreshIn intE 3 1 (w.heap.size + 1) W5.heap.size (.slice (some ⟨W3.heap.size, 0, none⟩) 0 0) ([] : List Int) W5) := Lib.hid (by
    rw [← hW5]
    exact (FreshIn.emp intE _ 1 (w.heap.size + 1) W3 (by omega)).keepB ((Below.refl _ _).alloc (Nat.le_refl _) _))
  have y_0 : W5.cell? ⟨Y, 0, none⟩ = some (.int .i64 0) := by rw [← hW5, ← hY]; simp [go_sem]
  have y_1 : W5.cell? ⟨Y, 1, none⟩ = some (.slice (some ⟨W3.heap.size, 0, none⟩) 0 0) := by rw [← hW5, ← hY]; simp [go_sem]
  have y_2 : W5.cell? ⟨Y, 2, none⟩ = some (.bool false) := by rw [← hW5, ← hY]; simp [go_sem]
  have y_3 : W5.cell? ⟨Y, 3, none⟩ = some (.string ⟨#[]⟩) := by rw [← hW5, ← hY]; simp [go_sem]
  have y_4 : W5.cell? ⟨Y, 4, none⟩ = some (.string ⟨#[]⟩) := by rw [← hW5, ← hY]; simp [go_sem]
  have y_f : ∀ o, W5.frozen? ⟨Y, o, none⟩ = false := fun o => by rw [← hW5, ← hY]; simp [go_sem]
  obtain ⟨lo, hlo⟩ : ∃ l, w.heap.size = l := ⟨_, rfl⟩
  have HLO := Lib.hid hlo
  have HZ0 : Hid (W0.cell? ⟨lo, 0, none⟩ = some (.int .i64 0) ∧ W0.cell? ⟨lo, 1, none⟩ = some (.int .i64 0) ∧ W0.cell? ⟨lo, 2, none⟩ = some (.int .i64 0) ∧ W0.cell? ⟨lo, 3, none⟩ = some (.int .i64 0) ∧ W0.cell? ⟨lo, 4, none⟩ = some (.int .i64 0) ∧ W0.cell? ⟨lo, 5, none⟩ = some (.int .i64 0) ∧ W0.cell? ⟨lo, 6, none⟩ = some (.int .i64 0) ∧ W0.cell? ⟨lo, 7, none⟩ = some (.int .i64 0) ∧ W0.cell? ⟨lo, 8, none⟩ = some (.int .i64 0) ∧ W0.cell? ⟨lo, 9, none⟩ = some (.string ⟨#[]⟩) ∧ W0.cell? ⟨lo, 10, none⟩ = some (.slice none 0 0) ∧ W0.cell? ⟨lo, 11, none⟩ = some (.slice none 0 0) ∧ ∀ o, W0.frozen? ⟨lo, o, none⟩ = false) := Lib.hid (by rw [← hlo]; exact ⟨z_0, z_1, z_2, z_3, z_4, z_5, z_6, z_7, z_8, z_9, z_10, z_11, z_f⟩)
  have HDR : Hid (DrS b a c xs 2 (lo + 1) X Y (newS n1 n2) ac3 cc3 ah3 dh3 pz (some ⟨W3.heap.size, 0, none⟩) 0 W5) := Lib.hid (by
    have f1 := FreshIn.blks HF3.out.row
    have f2 := HF3.out.win.blk
    have g1 : ∀ k, k ∈ blkOf ac3 ∨ k ∈ blkOf ah3 ∨ k ∈ blkOf (some ⟨W3.heap.size, 0, none⟩) → k ≠ X ∧ k ≠ Y := fun k hk => by
      rcases hk with h | h | h
      · have := f1 k h; omega
      · have := f2 k h; omega
      · simp [blkOf] at h; omega
    have hsc : ScrF (lo + 1) (newS n1 n2) ac3 cc3 ah3 dh3 W5 := ((HF3.out.low (by omega)).below HB3'.out).below HB5.out
    have hsrc : SrcAt b a c xs 2 W5 := ((HS2.out.below HB3.out).below HB3'.out).below HB5.out
    have hX5 : X < W5.heap.size := by have := HB5.out.size; omega
    exact ⟨hsc, ScrOK.new (by omega) (by omega) (by omega) (by omega), PvOK.z, by rw [← hlo]; exact HAR.out, hsrc, (HB5.out.cell (p := ⟨X, 0, none⟩) hX3).trans x_0, (HB5.out.cell (p := ⟨X, 1, none⟩) hX3).trans x_1, (HB5.out.cell (p := ⟨X, 2, none⟩) hX3).trans x_2, (HB5.out.cell (p := ⟨X, 3, none⟩) hX3).trans x_3, (HB5.out.cell (p := ⟨X, 4, none⟩) hX3).trans x_4, (HB5.out.cell (p := ⟨X, 5, none⟩) hX3).trans x_5, (HB5.out.cell (p := ⟨X, 6, none⟩) hX3).trans x_6, (HB5.out.cell (p := ⟨X, 7, none⟩) hX3).trans x_7, (HB5.out.cell (p := ⟨X, 8, none⟩) hX3).trans x_8, (HB5.out.cell (p := ⟨X, 9, none⟩) hX3).trans x_9, (HB5.out.cell (p := ⟨X, 10, none⟩) hX3).trans x_10, (HB5.out.cell (p := ⟨X, 11, none⟩) hX3).trans x_11, y_0, y_1, y_2, y_3, y_4, fun o => (HB5.out.frozen (p := ⟨X, o, none⟩) hX3).trans (x_f o), y_f, ⟨by omega, hX5⟩, ⟨by omega, hY5⟩, by omega, by omega, g1⟩)
  have HZ : Hid ((∀ o, W5.cell? ⟨lo, o, none⟩ = W0.cell? ⟨lo, o, none⟩) ∧ (∀ o, W5.frozen? ⟨lo, o, none⟩ = W0.frozen? ⟨lo, o, none⟩) ∧ Ch (fun k => k = b ∨ lo ≤ k) w W5) := Lib.hid (by
    have h1 : Mid b (b + 1) W0 w2 := HD1.out.trans HD2.out
    have hzz : lo < w2.heap.size := by omega
    have h2 : Below w2.heap.size w2 W5 := (HB3.out.trans (HB3'.out.mono hz3)).trans (HB5.out.mono (by omega))
    refine ⟨fun o => (h2.cell (p := ⟨lo, o, none⟩) hzz).trans (h1.cell (p := ⟨lo, o, none⟩) (by show lo < _; omega) (.inr (by show b + 1 ≤ lo; omega))), fun o => (h2.frozen (p := ⟨lo, o, none⟩) hzz).trans (h1.frozen (p := ⟨lo, o, none⟩) (by show lo < _; omega) (.inr (by show b + 1 ≤ lo; omega))), ?_⟩
    exact ((Ch.of_below HB0.out).trans (Ch.of_mid (M := fun k => k = b ∨ lo ≤ k) h1 (fun k h1 h2 _ => .inl (by omega))) (fun i hi => .inl hi)).trans (N := fun _ => False) (Ch.of_below h2) (fun _ h => h.elim))
  have hloX : lo < X := by omega
  have hloY : lo < Y := by omega
  have hlo5 : lo < W5.heap.size := by omega
  have hbl : b < lo := by omega
  have HFAR : Hid (∀ b' o, a = some ⟨b', o, none⟩ → xs = [] ∨ b' < lo) := Lib.hid (by rw [← hlo]; exact hfar)
  have HN5 := Lib.hid (srcNext_c b a c xs 2 5 W5 HDR.out.src (by omega) (by omega) (by omega))
  clear hW5 x_0 x_1 x_2 x_3 x_4 x_5 x_6 x_7 x_8 x_9 x_10 x_11 x_f y_0 y_1 y_2 y_3 y_4 y_f z_0 z_1 z_2 z_3 z_4 z_5 z_6 z_7 z_8 z_9 z_10 z_11 z_f
  go_wp2_with fail
  refine HN5.out.mono ?_
  rintro e w6 ⟨m5, hm5, rfl, hs6, hd6⟩
  have hc6 : Ch (· = b) W5 w6 := Ch.of_mid hd6 (fun k h1 h2 _ => by omega)
  have HDR6 := Lib.hid (HDR.out.ch hc6 hs6)
  have HZ6 : Hid ((∀ o, w6.cell? ⟨lo, o, none⟩ = W0.cell? ⟨lo, o, none⟩) ∧ (∀ o, w6.frozen? ⟨lo, o, none⟩ = W0.frozen? ⟨lo, o, none⟩) ∧ Ch (fun k => k = b ∨ lo ≤ k) w w6) := Lib.hid ⟨fun o => (hc6.cell (p := ⟨lo, o, none⟩) hlo5 (by show ¬ lo = b; omega)).trans (HZ.out.1 o), fun o => (hc6.frozen (p := ⟨lo, o, none⟩) hlo5 (by show ¬ lo = b; omega)).trans (HZ.out.2.1 o), HZ.out.2.2.trans hc6 (fun i hi => .inl (.inl hi))⟩
  have hlo6 : lo < w6.heap.size := by have := hc6.size; omega
  clear hs6 hd6 hc6
  go_wp2_with fail
  go_loopw [5] (fun iv wr => ∃ (j : Nat), j ≤ 4 ∧ iv = .int .i64 j ∧ Hid (∃ K s ac cc ah dh p ap cp, K ≤ 1000 * (5 - j) ∧ DrS b a c xs K (lo + 1) X Y s ac cc ah dh p ap cp wr ∧ (∀ o, wr.cell? ⟨lo, o, none⟩ = W0.cell? ⟨lo, o, none⟩) ∧ (∀ o, wr.frozen? ⟨lo, o, none⟩ = W0.frozen? ⟨lo, o, none⟩) ∧ Ch (fun k => k = b ∨ lo ≤ k) w wr ∧ lo < wr.heap.size)) (fun iv _ => (intOf iv).toNat)
  case atStart => exact ⟨m5, by omega, rfl, Lib.hid ⟨3, _, _, _, _, _, _, _, _, by omega, HDR6.out, HZ6.out.1, HZ6.out.2.1, HZ6.out.2.2, hlo6⟩⟩
  case round =>
    obtain ⟨j, hj, rfl, HI⟩ := hrel
    obtain ⟨K, s, ac, cc, ah, dh, p, ap, cp, hK, hdr, hzc, hzf, hch, hlr⟩ := HI.out
    have HD := Lib.hid hdr
    have HZC := Lib.hid hzc
    have HZF := Lib.hid hzf
    have HCH := Lib.hid hch
    clear hdr hzc hzf hch
    by_cases hj0 : 0 < j
    · have hj0' : (0 : Int) < (j : Int) := by omega
      go_upto_region 6 with fail
      have x_0 := HD.out.x0
      have x_1 := HD.out.x1
      have x_2 := HD.out.x2
      have x_3 := HD.out.x3
      have x_4 := HD.out.x4
      have x_5 := HD.out.x5
      have x_6 := HD.out.x6
      have x_7 := HD.out.x7
      have x_8 := HD.out.x8
      have x_9 := HD.out.x9
      have x_10 := HD.out.x10
      have x_11 := HD.out.x11
      have y_0 := HD.out.y0
      have y_1 := HD.out.y1
      have y_2 := HD.out.y2
      have y_3 := HD.out.y3
      have y_4 := HD.out.y4
      have hS0 : wr.cell? ⟨X, 0, none⟩ = some (.int .i64 (s.w : Int)) ∧ wr.cell? ⟨X, 1, none⟩ = some (.int .i64 (s.h : Int)) ∧ wr.cell? ⟨X, 2, none⟩ = some (.int .i64 (s.x : Int)) ∧ wr.cell? ⟨X, 3, none⟩ = some (.int .i64 (s.y : Int)) ∧ wr.cell? ⟨X, 4, none⟩ = some (.int .i64 (s.look : Int)) ∧ wr.cell? ⟨X, 5, none⟩ = some (.int .i64 (s.top : Int)) ∧ wr.cell? ⟨X, 6, none⟩ = some (.int .i64 (s.bot : Int)) ∧ wr.cell? ⟨X, 7, none⟩ = some (.int .i64 (s.sx : Int)) ∧ wr.cell? ⟨X, 8, none⟩ = some (.int .i64 (s.sy : Int)) ∧ wr.cell? ⟨X, 9, none⟩ = some (.string s.title) ∧ wr.cell? ⟨X, 10, none⟩ = some (.slice ac s.cells.length cc) ∧ wr.cell? ⟨X, 11, none⟩ = some (.slice ah s.hist.length dh) ∧ wr.cell? ⟨Y, 0, none⟩ = some (.int .i64 p.state) ∧ wr.cell? ⟨Y, 1, none⟩ = some (.slice ap p.args.length cp) ∧ wr.cell? ⟨Y, 2, none⟩ = some (.bool p.priv) ∧ wr.cell? ⟨Y, 3, none⟩ = some (.string p.text) ∧ wr.cell? ⟨Y, 4, none⟩ = some (.string p.utf) := ⟨x_0, x_1, x_2, x_3, x_4, x_5, x_6, x_7, x_8, x_9, x_10, x_11, y_0, y_1, y_2, y_3, y_4⟩
      refine wp_region_G (fun w' => w'.cell? ⟨X, 0, none⟩ = some (.int .i64 (s.w : Int)) ∧ w'.cell? ⟨X, 1, none⟩ = some (.int .i64 (s.h : Int)) ∧ w'.cell? ⟨X, 2, none⟩ = some (.int .i64 (s.x : Int)) ∧ w'.cell? ⟨X, 3, none⟩ = some (.int .i64 (s.y : Int)) ∧ w'.cell? ⟨X, 4, none⟩ = some (.int .i64 (s.look : Int)) ∧ w'.cell? ⟨X, 5, none⟩ = some (.int .i64 (s.top : Int)) ∧ w'.cell? ⟨X, 6, none⟩ = some (.int .i64 (s.bot : Int)) ∧ w'.cell? ⟨X, 7, none⟩ = some (.int .i64 (s.sx : Int)) ∧ w'.cell? ⟨X, 8, none⟩ = some (.int .i64 (s.sy : Int)) ∧ w'.cell? ⟨X, 9, none⟩ = some (.string s.title) ∧ w'.cell? ⟨X, 10, none⟩ = some (.slice ac s.cells.length cc) ∧ w'.cell? ⟨X, 11, none⟩ = some (.slice ah s.hist.length dh) ∧ w'.cell? ⟨Y, 0, none⟩ = some (.int .i64 p.state) ∧ w'.cell? ⟨Y, 1, none⟩ = some (.slice ap p.args.length cp) ∧ w'.cell? ⟨Y, 2, none⟩ = some (.bool p.priv) ∧ w'.cell? ⟨Y, 3, none⟩ = some (.string p.text) ∧ w'.cell? ⟨Y, 4, none⟩ = some (.string p.utf)) (fun i => i == 8 || i == 9) (by kernel_rfl) hS0 ?_
      refine tL ?_ 0 rfl hS0 ?_ ?_; rotate_left
      · intro w' hSw; obtain ⟨s0, s1, s2, s3, s4, s5, s6, s7, s8, s9, s10, s11, s12, s13, s14, s15, s16⟩ := hSw; go_simp; try rfl
      try simp only [Act.put,j1,j2,j3,j4,j5,j6]
      refine tL ?_ 1 rfl hS0 ?_ ?_; rotate_left
      · intro w' hSw; obtain ⟨s0, s1, s2, s3, s4, s5, s6, s7, s8, s9, s10, s11, s12, s13, s14, s15, s16⟩ := hSw; go_simp; try rfl
      try simp only [Act.put,j1,j2,j3,j4,j5,j6]
      refine tW ?_ 2 rfl ?_ ?_; rotate_left
      · intro w' hSw; go_simp; try rfl
      try simp only [Act.put,j1,j2,j3,j4,j5,j6]
      refine wpAnyG_one (i := 3) (by kernel_rfl) rfl hS0 (fun K' hK => ?_)
      simp only [j1,j2,j3]
      go_simp
      refine (srcOutput_c b a c xs K _ (HD.out.src.below ((Below.refl _ _).drew)) (by omega)).mono ?_
      rintro e x1 ⟨t, ⟨ht1, ht2⟩, rfl, hs1, hd1⟩
      have hc1 : Ch (· = b) wr x1 := (Ch.refl.drew).trans (Ch.of_mid (M := (· = b)) hd1 (fun k h1 h2 _ => by omega)) (fun _ h => .inl h)
      have HD1 := Lib.hid (HD.out.ch hc1 hs1)
      have HC1 := Lib.hid hc1
      have hzx1 := hc1.size
      have hSx1 : x1.cell? ⟨X, 0, none⟩ = some (.int .i64 (s.w : Int)) ∧ x1.cell? ⟨X, 1, none⟩ = some (.int .i64 (s.h : Int)) ∧ x1.cell? ⟨X, 2, none⟩ = some (.int .i64 (s.x : Int)) ∧ x1.cell? ⟨X, 3, none⟩ = some (.int .i64 (s.y : Int)) ∧ x1.cell? ⟨X, 4, none⟩ = some (.int .i64 (s.look : Int)) ∧ x1.cell? ⟨X, 5, none⟩ = some (.int .i64 (s.top : Int)) ∧ x1.cell? ⟨X, 6, none⟩ = some (.int .i64 (s.bot : Int)) ∧ x1.cell? ⟨X, 7, none⟩ = some (.int .i64 (s.sx : Int)) ∧ x1.cell? ⟨X, 8, none⟩ = some (.int .i64 (s.sy : Int)) ∧ x1.cell? ⟨X, 9, none⟩ = some (.string s.title) ∧ x1.cell? ⟨X, 10, none⟩ = some (.slice ac s.cells.length cc) ∧ x1.cell? ⟨X, 11, none⟩ = some (.slice ah s.hist.length dh) ∧ x1.cell? ⟨Y, 0, none⟩ = some (.int .i64 p.state) ∧ x1.cell? ⟨Y, 1, none⟩ = some (.slice ap p.args.length cp) ∧ x1.cell? ⟨Y, 2, none⟩ = some (.bool p.priv) ∧ x1.cell? ⟨Y, 3, none⟩ = some (.string p.text) ∧ x1.cell? ⟨Y, 4, none⟩ = some (.string p.utf) := ⟨HD1.out.x0, HD1.out.x1, HD1.out.x2, HD1.out.x3, HD1.out.x4, HD1.out.x5, HD1.out.x6, HD1.out.x7, HD1.out.x8, HD1.out.x9, HD1.out.x10, HD1.out.x11, HD1.out.y0, HD1.out.y1, HD1.out.y2, HD1.out.y3, HD1.out.y4⟩
      clear hs1 hd1 hc1
      refine hK.out _ _ (Or.inr hSx1) ?_
      clear hK K'
      try simp only [Act.put,j1,j2,j3,j4,j5,j6]
      refine wpAnyG_one (i := 4) (by kernel_rfl) rfl hSx1 (fun K' hK => ?_)
      simp only [j1,j2,j3]
      go_simp
      refine (l04Feed_c s ac cc ah dh p ap cp t _ HD1.out.sc.rd HD1.out.ok HD1.out.pv (FreshIn.sl (enc := intE) (fun _ => rfl) HD1.out.ar) (by omega)).mono ?_
      rintro e x2 ⟨ac2, cc2, ah2, dh2, ap2, cp2, rfl, hsc2, har2, hdj2, hb2⟩
      obtain ⟨s2, hs2⟩ : ∃ z, actsS s (prun p t.data.toList).2 = z := ⟨_, rfl⟩
      obtain ⟨p2, hp2⟩ : ∃ z, (prun p t.data.toList).1 = z := ⟨_, rfl⟩
      have hok2 : ScrOK s2 := by
        rw [← hs2]
        exact HD1.out.ok.acts (fun A hA => prun_ac t.data.toList HD1.out.pv A hA)
      have hpv2 : PvOK p2 := by rw [← hp2]; exact prun_ok _ HD1.out.pv
      rw [hs2] at hsc2
      rw [hp2] at har2
      rw [hs2, hp2]
      have HSC2 := Lib.hid hsc2
      have HAR2 := Lib.hid har2
      have HB2 := Lib.hid hb2
      have HOK2 := Lib.hid hok2
      have HPV2 := Lib.hid hpv2
      have hzx2 := hb2.size
      have HD2 := Lib.hid (HD1.out.ch (w' := x2) (Ch.of_below hb2) (HD1.out.src.below hb2))
      have hSx2 : x2.cell? ⟨X, 0, none⟩ = some (.int .i64 (s.w : Int)) ∧ x2.cell? ⟨X, 1, none⟩ = some (.int .i64 (s.h : Int)) ∧ x2.cell? ⟨X, 2, none⟩ = some (.int .i64 (s.x : Int)) ∧ x2.cell? ⟨X, 3, none⟩ = some (.int .i64 (s.y : Int)) ∧ x2.cell? ⟨X, 4, none⟩ = some (.int .i64 (s.look : Int)) ∧ x2.cell? ⟨X, 5, none⟩ = some (.int .i64 (s.top : Int)) ∧ x2.cell? ⟨X, 6, none⟩ = some (.int .i64 (s.bot : Int)) ∧ x2.cell? ⟨X, 7, none⟩ = some (.int .i64 (s.sx : Int)) ∧ x2.cell? ⟨X, 8, none⟩ = some (.int .i64 (s.sy : Int)) ∧ x2.cell? ⟨X, 9, none⟩ = some (.string s.title) ∧ x2.cell? ⟨X, 10, none⟩ = some (.slice ac s.cells.length cc) ∧ x2.cell? ⟨X, 11, none⟩ = some (.slice ah s.hist.length dh) ∧ x2.cell? ⟨Y, 0, none⟩ = some (.int .i64 p.state) ∧ x2.cell? ⟨Y, 1, none⟩ = some (.slice ap p.args.length cp) ∧ x2.cell? ⟨Y, 2, none⟩ = some (.bool p.priv) ∧ x2.cell? ⟨Y, 3, none⟩ = some (.string p.text) ∧ x2.cell? ⟨Y, 4, none⟩ = some (.string p.utf) := ⟨HD2.out.x0, HD2.out.x1, HD2.out.x2, HD2.out.x3, HD2.out.x4, HD2.out.x5, HD2.out.x6, HD2.out.x7, HD2.out.x8, HD2.out.x9, HD2.out.x10, HD2.out.x11, HD2.out.y0, HD2.out.y1, HD2.out.y2, HD2.out.y3, HD2.out.y4⟩
      clear hs2 hp2 hok2 hpv2 hsc2 har2 hdj2 hb2
      unfold scrV
      refine hK.out _ _ (Or.inr hSx2) ?_
      clear hK K'
      try simp only [Act.put,j1,j2,j3,j4,j5,j6]
      refine tW ?_ 5 rfl ?_ ?_; rotate_left
      · intro w' hSw; go_simp; try rfl
      try simp only [Act.put,j1,j2,j3,j4,j5,j6]
      refine tW ?_ 6 rfl ?_ ?_; rotate_left
      · intro w' hSw; go_simp; try rfl
      try simp only [Act.put,j1,j2,j3,j4,j5,j6]
      refine tW ?_ 7 rfl ?_ ?_; rotate_left
      · intro w' hSw; go_simp; try rfl
      try simp only [Act.put,j1,j2,j3,j4,j5,j6]
      have e_0 := HD2.out.x0
      have e_1 := HD2.out.x1
      have e_2 := HD2.out.x2
      have e_3 := HD2.out.x3
      have e_4 := HD2.out.x4
      have e_5 := HD2.out.x5
      have e_6 := HD2.out.x6
      have e_7 := HD2.out.x7
      have e_8 := HD2.out.x8
      have e_9 := HD2.out.x9
      have e_10 := HD2.out.x10
      have e_11 := HD2.out.x11
      have e_f := HD2.out.xf
      have e_l := HD2.out.xl.2
      refine wpAnyG_oneX (i := 8) (by kernel_rfl) rfl (by rfl) (fun K' hK => ?_)
      simp only [j1,j2,j3]
      go_simp
      obtain ⟨x3, hx3⟩ : ∃ x, ((((((((((((x2.setCell ⟨X, 0, none⟩ (.int .i64 (s2.w : Int))).setCell ⟨X, 1, none⟩ (.int .i64 (s2.h : Int))).setCell ⟨X, 2, none⟩ (.int .i64 (s2.x : Int))).setCell ⟨X, 3, none⟩ (.int .i64 (s2.y : Int))).setCell ⟨X, 4, none⟩ (.int .i64 (s2.look : Int))).setCell ⟨X, 5, none⟩ (.int .i64 (s2.top : Int))).setCell ⟨X, 6, none⟩ (.int .i64 (s2.bot : Int))).setCell ⟨X, 7, none⟩ (.int .i64 (s2.sx : Int))).setCell ⟨X, 8, none⟩ (.int .i64 (s2.sy : Int))).setCell ⟨X, 9, none⟩ (.string s2.title)).setCell ⟨X, 10, none⟩ (.slice ac2 s2.cells.length cc2)).setCell ⟨X, 11, none⟩ (.slice ah2 s2.hist.length dh2)) = x := ⟨_, rfl⟩
      have HC3 : Hid (Ch (· = X) x2 x3) := Lib.hid (by rw [← hx3]; exact (((((((((((Ch.set1' _ _ 0 _).trans (Ch.set1' _ _ 1 _) (fun _ h => .inl h)).trans (Ch.set1' _ _ 2 _) (fun _ h => .inl h)).trans (Ch.set1' _ _ 3 _) (fun _ h => .inl h)).trans (Ch.set1' _ _ 4 _) (fun _ h => .inl h)).trans (Ch.set1' _ _ 5 _) (fun _ h => .inl h)).trans (Ch.set1' _ _ 6 _) (fun _ h => .inl h)).trans (Ch.set1' _ _ 7 _) (fun _ h => .inl h)).trans (Ch.set1' _ _ 8 _) (fun _ h => .inl h)).trans (Ch.set1' _ _ 9 _) (fun _ h => .inl h)).trans (Ch.set1' _ _ 10 _) (fun _ h => .inl h)).trans (Ch.set1' _ _ 11 _) (fun _ h => .inl h))
      have hzx3 := HC3.out.size
      have hnYX : ¬ Y = X := fun e => HD.out.xy e.symm
      have hnXY : ¬ X = Y := HD.out.xy
      have t_0 : x3.cell? ⟨X, 0, none⟩ = some (.int .i64 (s2.w : Int)) := by rw [← hx3]; simp [go_sem, e_0, e_1, e_2, e_3, e_4, e_5, e_6, e_7, e_8, e_9, e_10, e_11, e_l]
      have t_1 : x3.cell? ⟨X, 1, none⟩ = some (.int .i64 (s2.h : Int)) := by rw [← hx3]; simp [go_sem, e_0, e_1, e_2, e_3, e_4, e_5, e_6, e_7, e_8, e_9, e_10, e_11, e_l]
      have t_2 : x3.cell? ⟨X, 2, none⟩ = some (.int .i64 (s2.x : Int)) := by rw [← hx3]; simp [go_sem, e_0, e_1, e_2, e_3, e_4, e_5, e_6, e_7, e_8, e_9, e_10, e_11, e_l]
      have t_3 : x3.cell? ⟨X, 3, none⟩ = some (.int .i64 (s2.y : Int)) := by rw [← hx3]; simp [go_sem, e_0, e_1, e_2, e_3, e_4, e_5, e_6, e_7, e_8, e_9, e_10, e_11, e_l]
      have t_4 : x3.cell? ⟨X, 4, none⟩ = some (.int .i64 (s2.look : Int)) := by rw [← hx3]; simp [go_sem, e_0, e_1, e_2, e_3, e_4, e_5, e_6, e_7, e_8, e_9, e_10, e_11, e_l]
      have t_5 : x3.cell? ⟨X, 5, none⟩ = some (.int .i64 (s2.top : Int)) := by rw [← hx3]; simp [go_sem, e_0, e_1, e_2, e_3, e_4, e_5, e_6, e_7, e_8, e_9, e_10, e_11, e_l]
      have t_6 : x3.cell? ⟨X, 6, none⟩ = some (.int .i64 (s2.bot : Int)) := by rw [← hx3]; simp [go_sem, e_0, e_1, e_2, e_3, e_4, e_5, e_6, e_7, e_8, e_9, e_10, e_11, e_l]
      have t_7 : x3.cell? ⟨X, 7, none⟩ = some (.int .i64 (s2.sx : Int)) := by rw [← hx3]; simp [go_sem, e_0, e_1, e_2, e_3, e_4, e_5, e_6, e_7, e_8, e_9, e_10, e_11, e_l]
      have t_8 : x3.cell? ⟨X, 8, none⟩ = some (.int .i64 (s2.sy : Int)) := by rw [← hx3]; simp [go_sem, e_0, e_1, e_2, e_3, e_4, e_5, e_6, e_7, e_8, e_9, e_10, e_11, e_l]
      have t_9 : x3.cell? ⟨X, 9, none⟩ = some (.string s2.title) := by rw [← hx3]; simp [go_sem, e_0, e_1, e_2, e_3, e_4, e_5, e_6, e_7, e_8, e_9, e_10, e_11, e_l]
      have t_10 : x3.cell? ⟨X, 10, none⟩ = some (.slice ac2 s2.cells.length cc2) := by rw [← hx3]; simp [go_sem, e_0, e_1, e_2, e_3, e_4, e_5, e_6, e_7, e_8, e_9, e_10, e_11, e_l]
      have t_11 : x3.cell? ⟨X, 11, none⟩ = some (.slice ah2 s2.hist.length dh2) := by rw [← hx3]; simp [go_sem, e_0, e_1, e_2, e_3, e_4, e_5, e_6, e_7, e_8, e_9, e_10, e_11, e_l]
      have x3_fX : ∀ o, x3.frozen? ⟨X, o, none⟩ = false := fun o => by rw [← hx3]; simp only [World.frozen?_setCell]; exact HD2.out.xf o
      rw [hx3]
      clear hx3 e_0 e_1 e_2 e_3 e_4 e_5 e_6 e_7 e_8 e_9 e_10 e_11 e_f e_l
      have e_0 := (HC3.out.cell (p := ⟨Y, 0, none⟩) HD2.out.yl.2 hnYX).trans HD2.out.y0
      have e_1 := (HC3.out.cell (p := ⟨Y, 1, none⟩) HD2.out.yl.2 hnYX).trans HD2.out.y1
      have e_2 := (HC3.out.cell (p := ⟨Y, 2, none⟩) HD2.out.yl.2 hnYX).trans HD2.out.y2
      have e_3 := (HC3.out.cell (p := ⟨Y, 3, none⟩) HD2.out.yl.2 hnYX).trans HD2.out.y3
      have e_4 := (HC3.out.cell (p := ⟨Y, 4, none⟩) HD2.out.yl.2 hnYX).trans HD2.out.y4
      have e_f : ∀ o, x3.frozen? ⟨Y, o, none⟩ = false := fun o => (HC3.out.frozen (p := ⟨Y, o, none⟩) HD2.out.yl.2 hnYX).trans (HD2.out.yf o)
      have e_l : Y < x3.heap.size := Nat.lt_of_lt_of_le HD2.out.yl.2 hzx3
      refine hK.out _ _ ?_
      clear hK K'
      try simp only [Act.put,j1,j2,j3,j4,j5,j6]
      refine wpAnyG_oneX (i := 9) (by kernel_rfl) rfl (by rfl) (fun K' hK => ?_)
      simp only [j1,j2,j3]
      go_simp
      obtain ⟨x4, hx4⟩ : ∃ x, (((((x3.setCell ⟨Y, 0, none⟩ (.int .i64 p2.state)).setCell ⟨Y, 1, none⟩ (.slice ap2 p2.args.length cp2)).setCell ⟨Y, 2, none⟩ (.bool p2.priv)).setCell ⟨Y, 3, none⟩ (.string p2.text)).setCell ⟨Y, 4, none⟩ (.string p2.utf)) = x := ⟨_, rfl⟩
      have HC4 : Hid (Ch (· = Y) x3 x4) := Lib.hid (by rw [← hx4]; exact ((((Ch.set1' _ _ 0 _).trans (Ch.set1' _ _ 1 _) (fun _ h => .inl h)).trans (Ch.set1' _ _ 2 _) (fun _ h => .inl h)).trans (Ch.set1' _ _ 3 _) (fun _ h => .inl h)).trans (Ch.set1' _ _ 4 _) (fun _ h => .inl h))
      have u_0 : x4.cell? ⟨Y, 0, none⟩ = some (.int .i64 p2.state) := by rw [← hx4]; simp [go_sem, e_0, e_1, e_2, e_3, e_4, e_l]
      have u_1 : x4.cell? ⟨Y, 1, none⟩ = some (.slice ap2 p2.args.length cp2) := by rw [← hx4]; simp [go_sem, e_0, e_1, e_2, e_3, e_4, e_l]
      have u_2 : x4.cell? ⟨Y, 2, none⟩ = some (.bool p2.priv) := by rw [← hx4]; simp [go_sem, e_0, e_1, e_2, e_3, e_4, e_l]
      have u_3 : x4.cell? ⟨Y, 3, none⟩ = some (.string p2.text) := by rw [← hx4]; simp [go_sem, e_0, e_1, e_2, e_3, e_4, e_l]
      have u_4 : x4.cell? ⟨Y, 4, none⟩ = some (.string p2.utf) := by rw [← hx4]; simp [go_sem, e_0, e_1, e_2, e_3, e_4, e_l]
      have x4_fX : ∀ o, x4.frozen? ⟨X, o, none⟩ = false := fun o => by rw [← hx4]; simp only [World.frozen?_setCell]; exact x3_fX o
      have x4_fY : ∀ o, x4.frozen? ⟨Y, o, none⟩ = false := fun o => by rw [← hx4]; simp only [World.frozen?_setCell]; exact e_f o
      rw [hx4]
      clear hx4 e_0 e_1 e_2 e_3 e_4 e_f e_l
      have hzx4 := HC4.out.size
      refine hK.out _ _ ?_
      clear hK K'
      try simp only [Act.put,j1,j2,j3,j4,j5,j6]
      refine wpAnyG_done (by kernel_rfl) ?_ _
      have HC34 : Hid (Ch (fun k => k = X ∨ k = Y) x2 x4) := Lib.hid ((HC3.out.mono (fun i h => .inl (.inl h))).trans HC4.out (fun i h => .inl (.inr h)))
      have HXY : Hid (x2.heap.size ≤ x4.heap.size ∧ X < x1.heap.size ∧ Y < x1.heap.size ∧ lo + 1 ≤ X ∧ lo + 1 ≤ Y ∧ wr.heap.size ≤ x1.heap.size) := Lib.hid ⟨HC34.out.size, HD1.out.xl.2, HD1.out.yl.2, HD.out.xl.1, HD.out.yl.1, hzx1⟩
      have HDN : Hid (DrS b a c xs (K + 9) (lo + 1) X Y s2 ac2 cc2 ah2 dh2 p2 ap2 cp2 x4) := Lib.hid (by
        have hq := HXY.out
        have f1 := FreshIn.blks HSC2.out.row
        have f2 := HSC2.out.win.blk
        have f3 := FreshIn.blks HAR2.out
        have hlx : lo + 1 ≤ x1.heap.size := by omega
        have hn : ∀ k, k ∈ blkOf ac2 ∨ k ∈ blkOf ah2 ∨ k ∈ blkOf ap2 → k ≠ X ∧ k ≠ Y := fun k hk => by
          rcases hk with h | h | h
          · have := f1 k h; omega
          · have := f2 k h; omega
          · have := f3 k h; omega
        have hn' : ∀ k, k ∈ blkOf ac2 ∨ k ∈ blkOf ah2 ∨ k ∈ blkOf ap2 → ¬ (k = X ∨ k = Y) := fun k hk e => by have := hn k hk; omega
        exact ⟨(HSC2.out.low hlx).ch HC34.out (fun k hk => hn' k (.inl hk)) (fun k hk => hn' k (.inr (.inl hk))), HOK2.out, HPV2.out, (HAR2.out.ch HC34.out (fun k hk => hn' k (.inr (.inr hk)))).mono hlx (Nat.le_refl _), HD2.out.src.ch HC34.out (by omega) (fun b' o he => (HFAR.out b' o he).imp id (fun h => by omega)), (HC4.out.cell (p := ⟨X, 0, none⟩) (by show X < _; omega) hnXY).trans t_0, (HC4.out.cell (p := ⟨X, 1, none⟩) (by show X < _; omega) hnXY).trans t_1, (HC4.out.cell (p := ⟨X, 2, none⟩) (by show X < _; omega) hnXY).trans t_2, (HC4.out.cell (p := ⟨X, 3, none⟩) (by show X < _; omega) hnXY).trans t_3, (HC4.out.cell (p := ⟨X, 4, none⟩) (by show X < _; omega) hnXY).trans t_4, (HC4.out.cell (p := ⟨X, 5, none⟩) (by show X < _; omega) hnXY).trans t_5, (HC4.out.cell (p := ⟨X, 6, none⟩) (by show X < _; omega) hnXY).trans t_6, (HC4.out.cell (p := ⟨X, 7, none⟩) (by show X < _; omega) hnXY).trans t_7, (HC4.out.cell (p := ⟨X, 8, none⟩) (by show X < _; omega) hnXY).trans t_8, (HC4.out.cell (p := ⟨X, 9, none⟩) (by show X < _; omega) hnXY).trans t_9, (HC4.out.cell (p := ⟨X, 10, none⟩) (by show X < _; omega) hnXY).trans t_10, (HC4.out.cell (p := ⟨X, 11, none⟩) (by show X < _; omega) hnXY).trans t_11, u_0, u_1, u_2, u_3, u_4, x4_fX, x4_fY, ⟨hq.2.2.2.1, by omega⟩, ⟨hq.2.2.2.2.1, by omega⟩, HD.out.xy, by omega, hn⟩)
      have HZN : Hid ((∀ o, x4.cell? ⟨lo, o, none⟩ = W0.cell? ⟨lo, o, none⟩) ∧ (∀ o, x4.frozen? ⟨lo, o, none⟩ = W0.frozen? ⟨lo, o, none⟩) ∧ Ch (fun k => k = b ∨ lo ≤ k) w x4 ∧ lo < x4.heap.size) := Lib.hid (by
        have hq := HXY.out
        have hce : Ch (fun k => k = b ∨ k = X ∨ k = Y) wr x4 := ((HC1.out.mono (M := fun k => k = b ∨ k = X ∨ k = Y) (fun i h => .inl (.inl h))).trans (N := fun _ => False) (Ch.of_below HB2.out) (fun _ h => h.elim)).trans HC34.out (fun i h => .inl (.inr h))
        have hnl : ¬ (lo = b ∨ lo = X ∨ lo = Y) := by omega
        exact ⟨fun o => (hce.cell (p := ⟨lo, o, none⟩) hlr hnl).trans (HZC.out o), fun o => (hce.frozen (p := ⟨lo, o, none⟩) hlr hnl).trans (HZF.out o), HCH.out.trans hce (fun i hi => .inl (by omega)), by omega⟩)
      go_wp2_with fail
      go_roundw
      case rel => exact ⟨j - 1, by omega, by go_num, Lib.hid ⟨K + 9, s2, ac2, cc2, ah2, dh2, p2, ap2, cp2, by omega, HDN.out, HZN.out.1, HZN.out.2.1, HZN.out.2.2.1, HZN.out.2.2.2⟩⟩
      case measure => simp [intOf]; omega
    · obtain rfl : j = 0 := by omega
      have x_0 : wr.cell? ⟨X, 0, none⟩ = some (.int .i64 (s.w : Int)) := HD.out.x0
      have x_1 : wr.cell? ⟨X, 1, none⟩ = some (.int .i64 (s.h : Int)) := HD.out.x1
      have x_2 : wr.cell? ⟨X, 2, none⟩ = some (.int .i64 (s.x : Int)) := HD.out.x2
      have x_3 : wr.cell? ⟨X, 3, none⟩ = some (.int .i64 (s.y : Int)) := HD.out.x3
      have x_4 : wr.cell? ⟨X, 4, none⟩ = some (.int .i64 (s.look : Int)) := HD.out.x4
      have x_5 : wr.cell? ⟨X, 5, none⟩ = some (.int .i64 (s.top : Int)) := HD.out.x5
      have x_6 : wr.cell? ⟨X, 6, none⟩ = some (.int .i64 (s.bot : Int)) := HD.out.x6
      have x_7 : wr.cell? ⟨X, 7, none⟩ = some (.int .i64 (s.sx : Int)) := HD.out.x7
      have x_8 : wr.cell? ⟨X, 8, none⟩ = some (.int .i64 (s.sy : Int)) := HD.out.x8
      have x_9 : wr.cell? ⟨X, 9, none⟩ = some (.string s.title) := HD.out.x9
      have x_10 : wr.cell? ⟨X, 10, none⟩ = some (.slice ac s.cells.length cc) := HD.out.x10
      have x_11 : wr.cell? ⟨X, 11, none⟩ = some (.slice ah s.hist.length dh) := HD.out.x11
      have z_0 : wr.cell? ⟨lo, 0, none⟩ = some (.int .i64 0) := (HZC.out 0).trans HZ0.out.1
      have z_1 : wr.cell? ⟨lo, 1, none⟩ = some (.int .i64 0) := (HZC.out 1).trans HZ0.out.2.1
      have z_2 : wr.cell? ⟨lo, 2, none⟩ = some (.int .i64 0) := (HZC.out 2).trans HZ0.out.2.2.1
      have z_3 : wr.cell? ⟨lo, 3, none⟩ = some (.int .i64 0) := (HZC.out 3).trans HZ0.out.2.2.2.1
      have z_4 : wr.cell? ⟨lo, 4, none⟩ = some (.int .i64 0) := (HZC.out 4).trans HZ0.out.2.2.2.2.1
      have z_5 : wr.cell? ⟨lo, 5, none⟩ = some (.int .i64 0) := (HZC.out 5).trans HZ0.out.2.2.2.2.2.1
      have z_6 : wr.cell? ⟨lo, 6, none⟩ = some (.int .i64 0) := (HZC.out 6).trans HZ0.out.2.2.2.2.2.2.1
      have z_7 : wr.cell? ⟨lo, 7, none⟩ = some (.int .i64 0) := (HZC.out 7).trans HZ0.out.2.2.2.2.2.2.2.1
      have z_8 : wr.cell? ⟨lo, 8, none⟩ = some (.int .i64 0) := (HZC.out 8).trans HZ0.out.2.2.2.2.2.2.2.2.1
      have z_9 : wr.cell? ⟨lo, 9, none⟩ = some (.string ⟨#[]⟩) := (HZC.out 9).trans HZ0.out.2.2.2.2.2.2.2.2.2.1
      have z_10 : wr.cell? ⟨lo, 10, none⟩ = some (.slice none 0 0) := (HZC.out 10).trans HZ0.out.2.2.2.2.2.2.2.2.2.2.1
      have z_11 : wr.cell? ⟨lo, 11, none⟩ = some (.slice none 0 0) := (HZC.out 11).trans HZ0.out.2.2.2.2.2.2.2.2.2.2.2.1
      have z_f : ∀ o, wr.frozen? ⟨lo, o, none⟩ = false := fun o => (HZF.out o).trans (HZ0.out.2.2.2.2.2.2.2.2.2.2.2.2 o)
      have nn : ¬ X = lo := by omega
      have nm : ¬ lo = X := by omega
      have hXr := HD.out.xl.2
      go_wp2_with fail
      refine bodyPost_ret (v := scrV s ac cc ah dh) (by simp [results, Tryz.results23, scrV, go_sem, x_0, x_1, x_2, x_3, x_4, x_5, x_6, x_7, x_8, x_9, x_10, x_11, z_0, z_1, z_2, z_3, z_4, z_5, z_6, z_7, z_8, z_9, z_10, z_11, hlr, hXr, nn, nm]) rfl ?_
      have hfin : ∀ wz, Ch (· = lo) wr wz → ScrF w.heap.size s ac cc ah dh wz ∧ Below b w wz := fun wz hc => by
        rw [HLO.out]
        have f1 := FreshIn.blks HD.out.sc.row
        have f2 := HD.out.sc.win.blk
        refine ⟨(HD.out.sc.low (Nat.le_succ lo)).ch hc (fun k hk e => ?_) (fun k hk e => ?_), ?_⟩
        · have := (f1 k hk).1; omega
        · have := (f2 k hk).1; omega
        · exact (HCH.out.below (by rw [HLO.out]; omega) (fun k h => by omega)).trans (hc.below (by omega) (fun k h => by omega))
      refine ⟨s, HD.out.ok, (hfin _ ?_).2, ac, cc, ah, dh, rfl, (hfin _ ?_).1⟩
      all_goals repeat (first | (with_reducible exact Ch.refl) | (with_reducible refine Ch.setB ?_ _ _))
theorem screenOf_c (a : Option Addr) (c : Nat) (xs : List UInt8) (w : World) (ha : Sl byteE 1 w a xs) (hl : xs.length ≤ 1048576) :
    Calls Tryz.prog 6 #[.slice a xs.length c] w fun e w' => ∃ s, ScrOK s ∧ Below w.heap.size w w' ∧ ∃ ac cc ah dh, e = .returned (scrV s ac cc ah dh) ∧ ScrF w.heap.size s ac cc ah dh w' := by
  obtain ⟨W0, hW0⟩ : ∃ x, w.alloc (.cells #[.int .i64 0, .int .i64 0, .int .i64 0, .int .i64 0, .int .i64 0, .int .i64 0, .int .i64 0, .int .i64 0, .int .i64 0, .string ⟨#[]⟩, .slice none 0 0, .slice none 0 0] 26) = x := ⟨_, rfl⟩
  have HB0 : Hid (Below w.heap.size w W0) := Lib.hid (by rw [← hW0]; exact (Below.refl _ _).alloc (Nat.le_refl _) _)
  have hz0 : w.heap.size < W0.heap.size := by rw [← hW0]; simp
  have z_0 : W0.cell? ⟨w.heap.size, 0, none⟩ = some (.int .i64 0) := by rw [← hW0]; simp [go_sem]
  have z_1 : W0.cell? ⟨w.heap.size, 1, none⟩ = some (.int .i64 0) := by rw [← hW0]; simp [go_sem]
  have z_2 : W0.cell? ⟨w.heap.size, 2, none⟩ = some (.int .i64 0) := by rw [← hW0]; simp [go_sem]
  have z_3 : W0.cell? ⟨w.heap.size, 3, none⟩ = some (.int .i64 0) := by rw [← hW0]; simp [go_sem]
  have z_4 : W0.cell? ⟨w.heap.size, 4, none⟩ = some (.int .i64 0) := by rw [← hW0]; simp [go_sem]
  have z_5 : W0.cell? ⟨w.heap.size, 5, none⟩ = some (.int .i64 0) := by rw [← hW0]; simp [go_sem]
  have z_6 : W0.cell? ⟨w.heap.size, 6, none⟩ = some (.int .i64 0) := by rw [← hW0]; simp [go_sem]
  have z_7 : W0.cell? ⟨w.heap.size, 7, none⟩ = some (.int .i64 0) := by rw [← hW0]; simp [go_sem]
  have z_8 : W0.cell? ⟨w.heap.size, 8, none⟩ = some (.int .i64 0) := by rw [← hW0]; simp [go_sem]
  have z_9 : W0.cell? ⟨w.heap.size, 9, none⟩ = some (.string ⟨#[]⟩) := by rw [← hW0]; simp [go_sem]
  have z_10 : W0.cell? ⟨w.heap.size, 10, none⟩ = some (.slice none 0 0) := by rw [← hW0]; simp [go_sem]
  have z_11 : W0.cell? ⟨w.heap.size, 11, none⟩ = some (.slice none 0 0) := by rw [← hW0]; simp [go_sem]
  have z_f : ∀ o, W0.frozen? ⟨w.heap.size, o, none⟩ = false := fun o => by rw [← hW0]; simp [go_sem]
  have HC := Lib.hid (l00Source_c a c xs W0 (ha.keep HB0.out) hl)
  clear ha
  go_enter Tryz.func6, Tryz.ntmps6
  go_upto_region 1 with fail
  clear hW0
  go_wp2_with fail
  refine HC.out.mono ?_
  rintro e w1 ⟨rfl, hs1, hb1⟩
  have HB1 := Lib.hid hb1
  have HN := Lib.hid (srcScreen_c W0.heap.size a c xs w1 hs1)
  have hz1 := hb1.size
  clear hs1 hb1
  go_wp2_with fail
  refine HN.out.mono ?_
  rintro e w2 ⟨s, hok, hb2, ac, cc, ah, dh, rfl, hsc⟩
  have HOK := Lib.hid hok
  have HB2 := Lib.hid hb2
  have HSC := Lib.hid hsc
  have hz2 := hb2.size
  have HB12 : Hid (Below W0.heap.size W0 w2) := Lib.hid (HB1.out.trans hb2)
  unfold scrV
  have x_0 := kC HB12.out hz0 z_0
  have x_1 := kC HB12.out hz0 z_1
  have x_2 := kC HB12.out hz0 z_2
  have x_3 := kC HB12.out hz0 z_3
  have x_4 := kC HB12.out hz0 z_4
  have x_5 := kC HB12.out hz0 z_5
  have x_6 := kC HB12.out hz0 z_6
  have x_7 := kC HB12.out hz0 z_7
  have x_8 := kC HB12.out hz0 z_8
  have x_9 := kC HB12.out hz0 z_9
  have x_10 := kC HB12.out hz0 z_10
  have x_11 := kC HB12.out hz0 z_11
  have x_f := fun o => kF HB12.out hz0 (z_f o)
  have x_l : w.heap.size < w2.heap.size := by have := HB12.out.size; omega
  clear hok hb2 hsc z_0 z_1 z_2 z_3 z_4 z_5 z_6 z_7 z_8 z_9 z_10 z_11 z_f
  go_wp2_with fail
  refine bodyPost_ret (v := scrV s ac cc ah dh) (by simp [results, Tryz.results6, scrV, go_sem, x_0, x_1, x_2, x_3, x_4, x_5, x_6, x_7, x_8, x_9, x_10, x_11, x_l]) rfl ?_
  have hfin : ∀ wz, Ch (fun k => k = w.heap.size) w2 wz → ScrF w.heap.size s ac cc ah dh wz ∧ Below w.heap.size w wz := fun wz hc => by
    have f1 := FreshIn.blks HSC.out.row
    have f2 := HSC.out.win.blk
    refine ⟨(HSC.out.low (by omega)).ch hc (fun k hk e => ?_) (fun k hk e => ?_), ?_⟩
    · have := (f1 k hk).1; omega
    · have := (f2 k hk).1; omega
    · exact (HB0.out.trans (HB12.out.mono (by omega))).trans (hc.below (by omega) (fun k h => by omega))
  refine ⟨s, HOK.out, (hfin _ ?_).2, ac, cc, ah, dh, rfl, (hfin _ ?_).1⟩
  all_goals repeat (first | (with_reducible exact Ch.refl) | (with_reducible refine Ch.setB ?_ _ _))
end
section
open Go.RowKit
theorem be_one (n : Nat) : be n 1 = [UInt8.ofNat n] := by
  simp [be, beB]
theorem celL_snoc (l : List Cl) (k : Nat) (hk : k < l.length) : celL (l.take (k + 1)) = celL (l.take k) ++ cel4 l[k] := by
  unfold celL
  rw [List.take_succ_eq_append_getElem hk, List.flatMap_append]
  simp only [List.flatMap_cons, List.flatMap_nil, List.append_nil]
theorem cellsText_c (a : Option Addr) (ca : Nat) (cs : List Cl) (w : World) (ha : Sl celE 2 w a cs) (la : cs.length ≤ 1048576) (hcs : ∀ c ∈ cs, 0 ≤ c.1 ∧ c.1 < 16777216 ∧ 0 ≤ c.2 ∧ c.2 < 256) :
    Calls Tryz.prog 33 #[.slice a cs.length ca] w fun e w' => e = .returned (.string (strOf (celL cs))) ∧ Below w.heap.size w w' := by
  have HN := Lib.hid hcs
  clear hcs
  go_enter Tryz.func33, Tryz.ntmps33
  go_wp2_with fail
  go_loopw [8] (fun i wr => ∃ k : Nat, k ≤ cs.length ∧ i = .int .i64 k ∧ Bld w.heap.size w.heap.size (celL (cs.take k)) wr ∧ Below w.heap.size w wr) (fun i _ => cs.length - (intOf i).toNat)
  case atStart => exact ⟨0, Nat.zero_le _, rfl, bld_new w _ (Nat.le_refl _), (by repeat (first | exact Below.refl _ _ | (refine Below.alloc ?_ (by (try simp) <;> (try omega)) _) | (refine Below.setCell ?_ (by (try simp) <;> (try omega)) _) | (refine Below.drew ?_) | (refine Below.trans ?_ (Below.mono (by assumption) (by (try simp) <;> (try omega))))))⟩
  case round =>
    obtain ⟨k, hk, rfl, hB, hbel⟩ := hrel
    have hlen := celL_length (cs.take k)
    have hlen' : (celL (cs.take k)).length ≤ 4194304 := by rw [hlen, List.length_take]; omega
    have hz := hbel.size
    have HBW := Lib.hid hbel
    have HS := fun h => Lib.hid (celL_snoc cs k h)
    clear hlen
    by_cases hlt : k < cs.length
    · have HSN := HS hlt
      obtain ⟨b1, o1, rfl, hb1, hc1⟩ := (ha.keep hbel).at hlt
      have c1 := hc1 k hlt 0 (by omega)
      have c2 := hc1 k hlt 1 (by omega)
      have hin := HN.out cs[k] (List.getElem_mem _)
      obtain ⟨c, hc⟩ : ∃ c, cs[k] = c := ⟨_, rfl⟩
      rw [hc] at c1 c2 hin HSN
      obtain ⟨n1, n2⟩ := c
      obtain ⟨n, rfl⟩ : ∃ n : Nat, n1 = (n : Int) := ⟨n1.toNat, by simp only at hin; omega⟩
      obtain ⟨m, rfl⟩ : ∃ m : Nat, n2 = (m : Int) := ⟨n2.toNat, by simp only at hin; omega⟩
      simp only [celE, Nat.add_zero, List.getElem?_cons_zero, List.getElem?_cons_succ] at c1 c2
      have hn40 : n ≤ 1099511627776 := by simp only at hin; omega
      have hm40 : m ≤ 1099511627776 := by simp only at hin; omega
      have HC4 : Hid (cel4 ((n : Int), (m : Int)) = be n 3 ++ be m 1) := Lib.hid (by rw [cel4, be_one]; rfl)
      rw [HC4.out] at HSN
      obtain ⟨X, hX⟩ : ∃ X, strOf (be n 3) = X := ⟨_, rfl⟩
      obtain ⟨Y, hY⟩ : ∃ Y, strOf (be m 1) = Y := ⟨_, rfl⟩
      have hXs : X.size = 3 := by rw [← hX, strOf_size, be_length]
      have hYs : Y.size = 1 := by rw [← hY, strOf_size, be_length]
      have HXY : Hid ((X ++ Y).data.toList = be n 3 ++ be m 1) := Lib.hid (by rw [← hX, ← hY, strOf_append]; rfl)
      have HXZ : Hid ((X ++ Y).size = X.size + Y.size) := Lib.hid ByteArray.size_append
      have HC1 : Hid (∀ W, Calls Tryz.prog 67 #[.int .i64 n, .int .i64 3] W fun e w' => e = .returned (.string X) ∧ Below W.heap.size W w') := Lib.hid (fun W => by rw [← hX]; exact bigBytes_c n 3 W hn40 (by omega))
      have HC2 : Hid (∀ W, Calls Tryz.prog 67 #[.int .i64 m, .int .i64 1] W fun e w' => e = .returned (.string Y) ∧ Below W.heap.size W w') := Lib.hid (fun W => by rw [← hY]; exact bigBytes_c m 1 W hm40 (by omega))
      generalize celL (cs.take k) = L at *
      have HB := Lib.hid hB
      have hbig : ¬ 9223372036854775807 < X.size + Y.size := by omega
      clear hc1 hbel HS hin hc hX hY hB
      go_upto_region 5 with fail
      obtain ⟨x1, hx1⟩ : ∃ x, wr.alloc (.cells #[.int .i64 n, .int .i64 m] 87) = x := ⟨_, rfl⟩
      have HB1 : Hid (Below wr.heap.size wr x1) := Lib.hid (by rw [← hx1]; exact (Below.refl _ _).alloc (Nat.le_refl _) _)
      have k_0 : x1.cell? ⟨wr.heap.size, 0, none⟩ = some (.int .i64 n) := by rw [← hx1]; simp [go_sem]
      have k_1 : x1.cell? ⟨wr.heap.size, 1, none⟩ = some (.int .i64 m) := by rw [← hx1]; simp [go_sem]
      have k_l : wr.heap.size < x1.heap.size := by rw [← hx1]; simp
      rw [hx1]
      clear hx1
      refine wp_region_G (fun w' => True) (fun i => false) (by kernel_rfl) trivial ?_
      refine tW ?_ 0 rfl ?_ ?_; rotate_left
      · intro w' hSw; go_simp; try rfl
      try simp only [Act.put,j1,j2,j3,j4,j5,j6]
      refine tW ?_ 3 rfl ?_ ?_; rotate_left
      · intro w' hSw; go_simp; try rfl
      try simp only [Act.put,j1,j2,j3,j4,j5,j6]
      refine wpAnyG_br (rs := [1, 4]) (by kernel_rfl) (by simp) ?_
      intro j hj
      simp only [List.mem_cons, List.not_mem_nil, or_false] at hj
      rcases hj with rfl | rfl
      · skip
        refine ⟨_, rfl, fun K' hK => ?_⟩
        simp only [j1,j2,j3]
        go_simp
        refine hK.out _ _ (Or.inr trivial) ?_
        clear hK K'
        try simp only [Act.put,j1,j2,j3,j4,j5,j6]
        refine wpAnyG_br (rs := [2, 4]) (by kernel_rfl) (by simp) ?_
        intro j hj
        simp only [List.mem_cons, List.not_mem_nil, or_false] at hj
        rcases hj with rfl | rfl
        · skip
          refine ⟨_, rfl, fun K' hK => ?_⟩
          simp only [j1,j2,j3]
          go_simp
          go_at_call 67
          refine (HC1.out _).mono ?_
          rintro e x2 ⟨rfl, hbc⟩
          have HBx2 : Hid (Below x1.heap.size x1 x2) := Lib.hid (((Below.refl _ _).drew).trans (by simpa using hbc))
          have kn_1 := kC HBx2.out k_l k_1
          clear hbc
          refine hK.out _ _ (Or.inr trivial) ?_
          clear hK K'
          try simp only [Act.put,j1,j2,j3,j4,j5,j6]
          refine wpAnyG_one (i := 4) (by kernel_rfl) rfl trivial (fun K' hK => ?_)
          simp only [j1,j2,j3]
          go_simp
          refine hK.out _ _ (Or.inr trivial) ?_
          clear hK K'
          try simp only [Act.put,j1,j2,j3,j4,j5,j6]
          refine wpAnyG_one (i := 5) (by kernel_rfl) rfl trivial (fun K' hK => ?_)
          simp only [j1,j2,j3]
          go_simp
          go_at_call 67
          refine (HC2.out _).mono ?_
          rintro e x3 ⟨rfl, hbd⟩
          have HB3 : Hid (Below x2.heap.size x2 x3) := Lib.hid (by simpa using hbd)
          have HB4 : Hid (Below wr.heap.size wr x3) := Lib.hid (HB1.out.trans ((HBx2.out.trans (HB3.out.mono HBx2.out.size)).mono HB1.out.size))
          have HK4 := Lib.hid (HB.out.below HB4.out)
          have hz4 := HB4.out.size
          clear hbd
          refine hK.out _ _ (Or.inr trivial) ?_
          clear hK K'
          try simp only [Act.put,j1,j2,j3,j4,j5,j6]
          refine tW ?_ 6 rfl ?_ ?_; rotate_left
          · intro w' hSw; go_simp; try rfl
          try simp only [Act.put,j1,j2,j3,j4,j5,j6]
          refine wpAnyG_one (i := 7) (by kernel_rfl) rfl trivial (fun K' hK => ?_)
          simp only [j1,j2,j3]
          go_simp
          go_at_call 66
          refine (writeString_c w.heap.size w.heap.size L (X ++ Y) _ HK4.out (by omega) (by rw [HXZ.out]; omega) (by first | omega | (simp; omega))).mono ?_
          rintro e x5 ⟨rfl, hB5, hb5⟩
          have HB5 := Lib.hid hB5
          have HBB5 := Lib.hid hb5
          clear hB5 hb5
          refine hK.out _ _ (Or.inr trivial) ?_
          clear hK K'
          try simp only [Act.put,j1,j2,j3,j4,j5,j6]
          refine wpAnyG_done (by kernel_rfl) ?_ _
          go_wp2_with fail
          go_roundw
          case rel => exact ⟨k + 1, by omega, by go_num, by rw [HSN.out, ← HXY.out]; exact HB5.out, (HBW.out.trans (HB4.out.mono hz)).trans HBB5.out⟩
          case measure => simp [intOf]; omega
        · skip
          refine ⟨_, rfl, fun K' hK => ?_⟩
          simp only [j1,j2,j3]
          go_simp
          refine hK.out _ _ (Or.inr trivial) ?_
          clear hK K'
          try simp only [Act.put,j1,j2,j3,j4,j5,j6]
          refine wpAnyG_one (i := 2) (by kernel_rfl) rfl trivial (fun K' hK => ?_)
          simp only [j1,j2,j3]
          go_simp
          go_at_call 67
          refine (HC1.out _).mono ?_
          rintro e x2 ⟨rfl, hbc⟩
          have HBx2 : Hid (Below x1.heap.size x1 x2) := Lib.hid (((Below.refl _ _).drew).trans (by simpa using hbc))
          have kn_1 := kC HBx2.out k_l k_1
          clear hbc
          refine hK.out _ _ (Or.inr trivial) ?_
          clear hK K'
          try simp only [Act.put,j1,j2,j3,j4,j5,j6]
          refine wpAnyG_one (i := 5) (by kernel_rfl) rfl trivial (fun K' hK => ?_)
          simp only [j1,j2,j3]
          go_simp
          go_at_call 67
          refine (HC2.out _).mono ?_
          rintro e x3 ⟨rfl, hbd⟩
          have HB3 : Hid (Below x2.heap.size x2 x3) := Lib.hid (by simpa using hbd)
          have HB4 : Hid (Below wr.heap.size wr x3) := Lib.hid (HB1.out.trans ((HBx2.out.trans (HB3.out.mono HBx2.out.size)).mono HB1.out.size))
          have HK4 := Lib.hid (HB.out.below HB4.out)
          have hz4 := HB4.out.size
          clear hbd
          refine hK.out _ _ (Or.inr trivial) ?_
          clear hK K'
          try simp only [Act.put,j1,j2,j3,j4,j5,j6]
          refine tW ?_ 6 rfl ?_ ?_; rotate_left
          · intro w' hSw; go_simp; try rfl
          try simp only [Act.put,j1,j2,j3,j4,j5,j6]
          refine wpAnyG_one (i := 7) (by kernel_rfl) rfl trivial (fun K' hK => ?_)
          simp only [j1,j2,j3]
          go_simp
          go_at_call 66
          refine (writeString_c w.heap.size w.heap.size L (X ++ Y) _ HK4.out (by omega) (by rw [HXZ.out]; omega) (by first | omega | (simp; omega))).mono ?_
          rintro e x5 ⟨rfl, hB5, hb5⟩
          have HB5 := Lib.hid hB5
          have HBB5 := Lib.hid hb5
          clear hB5 hb5
          refine hK.out _ _ (Or.inr trivial) ?_
          clear hK K'
          try simp only [Act.put,j1,j2,j3,j4,j5,j6]
          refine wpAnyG_done (by kernel_rfl) ?_ _
          go_wp2_with fail
          go_roundw
          case rel => exact ⟨k + 1, by omega, by go_num, by rw [HSN.out, ← HXY.out]; exact HB5.out, (HBW.out.trans (HB4.out.mono hz)).trans HBB5.out⟩
          case measure => simp [intOf]; omega
      · skip
        refine ⟨_, rfl, fun K' hK => ?_⟩
        simp only [j1,j2,j3]
        go_simp
        refine hK.out _ _ (Or.inr trivial) ?_
        clear hK K'
        try simp only [Act.put,j1,j2,j3,j4,j5,j6]
        refine wpAnyG_one (i := 1) (by kernel_rfl) rfl trivial (fun K' hK => ?_)
        simp only [j1,j2,j3]
        go_simp
        refine hK.out _ _ (Or.inr trivial) ?_
        clear hK K'
        try simp only [Act.put,j1,j2,j3,j4,j5,j6]
        refine wpAnyG_one (i := 2) (by kernel_rfl) rfl trivial (fun K' hK => ?_)
        simp only [j1,j2,j3]
        go_simp
        go_at_call 67
        refine (HC1.out _).mono ?_
        rintro e x2 ⟨rfl, hbc⟩
        have HBx2 : Hid (Below x1.heap.size x1 x2) := Lib.hid (((Below.refl _ _).drew).trans (by simpa using hbc))
        have kn_1 := kC HBx2.out k_l k_1
        clear hbc
        refine hK.out _ _ (Or.inr trivial) ?_
        clear hK K'
        try simp only [Act.put,j1,j2,j3,j4,j5,j6]
        refine wpAnyG_one (i := 5) (by kernel_rfl) rfl trivial (fun K' hK => ?_)
        simp only [j1,j2,j3]
        go_simp
        go_at_call 67
        refine (HC2.out _).mono ?_
        rintro e x3 ⟨rfl, hbd⟩
        have HB3 : Hid (Below x2.heap.size x2 x3) := Lib.hid (by simpa using hbd)
        have HB4 : Hid (Below wr.heap.size wr x3) := Lib.hid (HB1.out.trans ((HBx2.out.trans (HB3.out.mono HBx2.out.size)).mono HB1.out.size))
        have HK4 := Lib.hid (HB.out.below HB4.out)
        have hz4 := HB4.out.size
        clear hbd
        refine hK.out _ _ (Or.inr trivial) ?_
        clear hK K'
        try simp only [Act.put,j1,j2,j3,j4,j5,j6]
        refine tW ?_ 6 rfl ?_ ?_; rotate_left
        · intro w' hSw; go_simp; try rfl
        try simp only [Act.put,j1,j2,j3,j4,j5,j6]
        refine wpAnyG_one (i := 7) (by kernel_rfl) rfl trivial (fun K' hK => ?_)
        simp only [j1,j2,j3]
        go_simp
        go_at_call 66
        refine (writeString_c w.heap.size w.heap.size L (X ++ Y) _ HK4.out (by omega) (by rw [HXZ.out]; omega) (by first | omega | (simp; omega))).mono ?_
        rintro e x5 ⟨rfl, hB5, hb5⟩
        have HB5 := Lib.hid hB5
        have HBB5 := Lib.hid hb5
        clear hB5 hb5
        refine hK.out _ _ (Or.inr trivial) ?_
        clear hK K'
        try simp only [Act.put,j1,j2,j3,j4,j5,j6]
        refine wpAnyG_done (by kernel_rfl) ?_ _
        go_wp2_with fail
        go_roundw
        case rel => exact ⟨k + 1, by omega, by go_num, by rw [HSN.out, ← HXY.out]; exact HB5.out, (HBW.out.trans (HB4.out.mono hz)).trans HBB5.out⟩
        case measure => simp [intOf]; omega
    · obtain rfl : k = cs.length := by omega
      rw [List.take_length] at hB
      have HB := Lib.hid hB
      clear hB hbel HS
      go_wp2_with fail
      refine (bldString_c w.heap.size w.heap.size (celL cs) _ HB.out hz).mono ?_
      rintro e w3 ⟨rfl, hb3⟩
      go_wp2_with fail
      go_ret
      exact ⟨rfl, HBW.out.trans hb3⟩
end
section
open Go.RowKit
theorem Tryz.infoB8 : (Tryz.prog.info? 5).map (fun i => (i.zero, i.size, i.bytes)) = some (some (.int .u8 0), 1, 1) := by kernel_rfl
theorem byteOneC : ∀ (x : UInt8), ∀ u ∈ byteE x, u.oneCell' = true := fun x u hu => by simp [byteE] at hu; subst hu; rfl
theorem celL_le (l : List Cl) (k m : Nat) (h : k ≤ m) : (celL (l.take k)).length ≤ 4 * m := by
  rw [celL_length, List.length_take]
  omega
theorem boxL' {α : Type} {enc : α → List Value} {sz : Nat} {w : World} (hs : ∀ x, (enc x).length = sz) (xs : List α) (cs : Array Value) (T : TypeId) (hc : cs.toList = xs.flatMap enc) (b : Nat) (hb : b = w.heap.size) : Sl enc sz (w.alloc (.cells cs T)) (some ⟨b, 0, none⟩) xs := by
  subst hb
  refine .inr ⟨w.heap.size, 0, rfl, by simp, fun i hi j hj => ?_⟩
  rw [Nat.zero_add, World.cell?_alloc_new, ← Array.getElem?_toList, hc, flat_get enc sz hs xs i hi j hj]
theorem l04Cells_c (s : Scr) (ac : Option Addr) (cc : Nat) (ah : Option Addr) (dh : Nat) (y : Nat) (w : World) (h : ScrS s ac ah w) (hw1 : 1 ≤ s.w) (hw2 : s.w ≤ 24) (hh2 : s.h ≤ 10) (hy : y < s.h) (hcn : s.cells.length = s.w * s.h) (hcs : ∀ c ∈ s.cells, celOK c) :
    Calls Tryz.prog 98 #[scrV s ac cc ah dh, .int .i64 y] w fun e w' => e = .returned (.string (strOf (celL (rowC s y)))) ∧ Below w.heap.size w w' := by
  obtain ⟨i0, hi, hz0, hz1, hz2⟩ := info_parts Tryz.infoB8
  have h0 : 0 < s.cells.length := by rw [hcn]; exact Nat.mul_pos (by omega) (by omega)
  obtain ⟨b1, o1, rfl, hb1w, _⟩ := h.cs.at h0
  have HR := Lib.hid h
  obtain ⟨nh, hnh⟩ : ∃ n, s.hist.length = n := ⟨_, rfl⟩
  obtain ⟨wd, hwd⟩ : ∃ n, s.w = n := ⟨_, rfl⟩
  obtain ⟨n, hn⟩ : ∃ n, s.cells.length = n := ⟨_, rfl⟩
  obtain ⟨row, hrow⟩ : ∃ r, rowC s y = r := ⟨_, rfl⟩
  have hyw : (y + 1) * wd ≤ n := by rw [← hn, hcn, hwd, Nat.mul_comm]; exact Nat.mul_le_mul_left _ hy
  have hn240 : n ≤ 240 := by rw [← hn, hcn]; exact Nat.mul_le_mul hw2 hh2
  have hrl : row.length = wd := by
    rw [← hrow]
    simp only [rowC, List.length_take, List.length_drop, hn, hwd]
    rw [Nat.succ_mul] at hyw
    omega
  have hrc : ∀ i (hi : i < row.length) (hj : y * wd + i < s.cells.length), s.cells[y * wd + i] = row[i] := fun i hi hj => by
    subst hrow
    simp only [rowC, List.getElem_take, List.getElem_drop, hwd]
  have hrr : ∀ c ∈ row, celOK c := fun c hc => hcs c (by
    rw [← hrow] at hc
    exact List.mem_of_mem_drop (List.mem_of_mem_take hc))
  have HRL := Lib.hid hrl
  have HRC := Lib.hid hrc
  have HRR := Lib.hid hrr
  have HN := Lib.hid hn
  unfold scrV
  rw [hwd] at hw2
  rw [hwd, hn, hnh, hrow]
  rw [Nat.succ_mul] at hyw
  obtain ⟨p, hp⟩ : ∃ p, y * wd = p := ⟨_, rfl⟩
  have hpi : (y : Int) * (wd : Int) = (p : Int) := by rw [← hp]; exact (Int.natCast_mul y wd).symm
  rw [hp] at hyw
  have HP := Lib.hid hp
  clear h0 hw1 h hnh hrow hrl hrc hrr hp hcn hcs hwd hn hh2 hy
  go_enter Tryz.func98, Tryz.ntmps98
  go_wp2_with fail
  go_loopw [5, 6] (fun so sx wr => ∃ (x : Nat) (av : Option Addr) (cv : Nat) (L : List UInt8), x ≤ wd ∧ sx = .int .i64 x ∧ so = .slice av L.length cv ∧ L.length ≤ 96 ∧ Hid (L = celL (row.take x) ∧ FreshIn byteE 5 1 (w.heap.size + 1) wr.heap.size (.slice av L.length cv) L wr ∧ Below w.heap.size w wr ∧ wr.cell? ⟨w.heap.size, 0, none⟩ = some (.int .i64 wd) ∧ wr.cell? ⟨w.heap.size, 10, none⟩ = some (.slice (some ⟨b1, o1, none⟩) n cc) ∧ w.heap.size < wr.heap.size)) (fun _ sx _ => wd - (intOf sx).toNat)
  case atStart =>
    refine ⟨0, some ⟨w.heap.size + 1, 0, none⟩, 0, [], Nat.zero_le _, rfl, by first | rfl | simp, by decide, Lib.hid ⟨rfl, ?_, ?_, by simp [go_sem], by simp [go_sem], by simp; omega⟩⟩
    · refine (Fresh.of_own ?_ rfl rfl).here
      have := World.ownsRow_made (base := w.heap.size + 1) (e := 5) (size := 1) (w.alloc (.cells #[.int .i64 (wd : Int), .int .i64 (s.h : Int), .int .i64 (s.x : Int), .int .i64 (s.y : Int), .int .i64 (s.look : Int), .int .i64 (s.top : Int), .int .i64 (s.bot : Int), .int .i64 (s.sx : Int), .int .i64 (s.sy : Int), .string s.title, .slice (some ⟨b1, o1, none⟩) n cc, .slice ah nh dh] 26)) #[] 0 (by simp) (by decide) rfl
      simpa using this
    · exact ((Below.refl _ _).alloc (Nat.le_refl _) _).alloc (by simp) _
  case round =>
    obtain ⟨x, av, cv, L, hx, rfl, rfl, hL96, HQ⟩ := hrel
    have k_0 := HQ.out.2.2.2.1
    have k_10 := HQ.out.2.2.2.2.1
    have kl := HQ.out.2.2.2.2.2
    by_cases hlt : x < wd
    · have hlt' : (x : Int) < (wd : Int) := by omega
      have hxr : x < row.length := by rw [HRL.out]; exact hlt
      obtain ⟨c, hc⟩ : ∃ c, row[x] = c := ⟨_, rfl⟩
      have hxn : p + x < s.cells.length := by rw [HN.out]; omega
      have HC : Hid (s.cells[p + x] = c) := Lib.hid (by rw [← hc, ← HRC.out x hxr (by rw [HP.out]; exact hxn)]; simp only [HP.out])
      have hcm := HRR.out c (by rw [← hc]; exact List.getElem_mem hxr)
      have HTK : Hid (celL (row.take (x + 1)) = celL (row.take x) ++ cel4 c) := Lib.hid (by rw [← hc]; exact celL_snoc row x hxr)
      obtain ⟨b', o', hae, hb1, hc1⟩ := ((HR.out.below HQ.out.2.2.1).cs).at hxn
      cases hae
      have c1 := hc1 (p + x) hxn 0 (by omega)
      have c2 := hc1 (p + x) hxn 1 (by omega)
      rw [HC.out] at c1 c2
      obtain ⟨n1, n2⟩ := c
      obtain ⟨r, rfl⟩ : ∃ r : Nat, n1 = (r : Int) := ⟨n1.toNat, by have := hcm.1.1; simp only at this; omega⟩
      obtain ⟨u, rfl⟩ : ∃ u : UInt8, n2 = (u.toNat : Int) := ⟨UInt8.ofNat n2.toNat, by have := hcm.2; simp only at this; rw [UInt8.toNat_ofNat']; omega⟩
      simp only [celE, Nat.add_zero, List.getElem?_cons_zero, List.getElem?_cons_succ] at c1 c2
      have hr40 : r ≤ 1099511627776 := by have := hcm.1.2.1; simp only at this; omega
      have hu8 := u.toNat_lt
      have HC4 : Hid (cel4 ((r : Int), (u.toNat : Int)) = be r 3 ++ [u]) := Lib.hid (by rw [cel4]; simp)
      rw [HC4.out] at HTK
      clear hc1 hc hxr hcm
      have hpx : (p : Int) + (x : Int) = ((p + x : Nat) : Int) := by omega
      have hpn : p + x < n := by omega
      obtain ⟨i, hi'⟩ : ∃ i, p + x = i := ⟨_, rfl⟩
      rw [hi'] at hpx c1 c2 hpn
      have hin : (i : Int) < (n : Int) := by omega
      have hw8 : IntKind.u8.wrap (u.toNat : Int) = (u.toNat : Int) := u8_in (by omega) (by omega)
      clear hi'
      go_upto_region 6 with fail
      obtain ⟨x1, hx1⟩ : ∃ x, wr.alloc (.cells #[.int .i64 r, .int .i64 (u.toNat : Int)] 87) = x := ⟨_, rfl⟩
      have HB1 : Hid (Below wr.heap.size wr x1) := Lib.hid (by rw [← hx1]; exact (Below.refl _ _).alloc (Nat.le_refl _) _)
      have d_0 : x1.cell? ⟨wr.heap.size, 0, none⟩ = some (.int .i64 r) := by rw [← hx1]; simp [go_sem]
      have d_1 : x1.cell? ⟨wr.heap.size, 1, none⟩ = some (.int .i64 (u.toNat : Int)) := by rw [← hx1]; simp [go_sem]
      have d_l : wr.heap.size < x1.heap.size := by rw [← hx1]; simp
      rw [hx1]
      clear hx1
      have HF1 : Hid (FreshIn byteE 5 1 (w.heap.size + 1) x1.heap.size (.slice av L.length cv) L x1) := Lib.hid ((HQ.out.2.1.below HB1.out).mono (Nat.le_refl _) HB1.out.size)
      have HNB : Hid (wr.heap.size ∉ blkOf av) := Lib.hid (fun hb => by have := (FreshIn.blks HQ.out.2.1 _ hb).2; omega)
      have HSB : Hid (∀ x, Ch (· ∈ blkOf av) x1 x → x.cell? ⟨wr.heap.size, 0, none⟩ = some (.int .i64 r) ∧ x.cell? ⟨wr.heap.size, 1, none⟩ = some (.int .i64 (u.toNat : Int))) := Lib.hid (fun x h => ⟨(h.cell (p := ⟨wr.heap.size, 0, none⟩) d_l HNB.out).trans d_0, (h.cell (p := ⟨wr.heap.size, 1, none⟩) d_l HNB.out).trans d_1⟩)
      have HC1 : Hid (Ch (· ∈ blkOf av) x1 x1) := Lib.hid Ch.refl
      have HO1 : Hid (∀ a b, Ch (· ∈ blkOf av) x1 a → Ch (· ∈ blkOf av) a b → Ch (· ∈ blkOf av) x1 b) := Lib.hid (fun a b h k => h.trans k (fun _ h => .inl h))
      have hS0 := HSB.out x1 HC1.out
      have hl1 : (be r 3).length ≤ 3 := by rw [be_length]; omega
      obtain ⟨E, hE⟩ : ∃ E, be r 3 = E := ⟨_, rfl⟩
      have HCALL : Hid (∀ W, Calls Tryz.prog 128 #[.int .i64 r, .int .i64 3] W (FreshR byteE 5 1 W E)) := Lib.hid (fun W => by rw [← hE]; exact l02Number_c r 3 W hr40 (by omega))
      rw [hE] at hl1 HTK
      clear hE
      refine wp_region_G (fun w' => w'.cell? ⟨wr.heap.size, 0, none⟩ = some (.int .i64 r) ∧ w'.cell? ⟨wr.heap.size, 1, none⟩ = some (.int .i64 (u.toNat : Int))) (fun i => false) (by kernel_rfl) hS0 ?_
      refine tW ?_ 0 rfl ?_ ?_; rotate_left
      · intro w' hSw; go_simp; try rfl
      try simp only [Act.put,j1,j2,j3,j4,j5,j6]
      refine tW ?_ 1 rfl ?_ ?_; rotate_left
      · intro w' hSw; go_simp; try rfl
      try simp only [Act.put,j1,j2,j3,j4,j5,j6]
      refine tL ?_ 2 rfl hS0 ?_ ?_; rotate_left
      · intro w' hSw; obtain ⟨s0, s1⟩ := hSw; go_simp; try rfl
      try simp only [Act.put,j1,j2,j3,j4,j5,j6]
      refine tW ?_ 5 rfl ?_ ?_; rotate_left
      · intro w' hSw; go_simp; try rfl
      try simp only [Act.put,j1,j2,j3,j4,j5,j6]
      refine tL ?_ 6 rfl hS0 ?_ ?_; rotate_left
      · intro w' hSw; obtain ⟨s0, s1⟩ := hSw; go_simp; try rfl
      try simp only [Act.put,j1,j2,j3,j4,j5,j6]
      refine tW ?_ 7 rfl ?_ ?_; rotate_left
      · intro w' hSw; go_simp; try rfl
      try simp only [Act.put,j1,j2,j3,j4,j5,j6]
      refine wpAnyG_br (rs := [3, 8]) (by kernel_rfl) (by simp) ?_
      intro j hj
      simp only [List.mem_cons, List.not_mem_nil, or_false] at hj
      rcases hj with rfl | rfl
      · skip
        refine ⟨_, rfl, fun K' hK => ?_⟩
        simp only [j1,j2,j3]
        go_simp
        go_at_call 128
        refine (HCALL.out _).mono ?_
        rintro e y2 ⟨v2, rfl, hf2, hb2⟩
        obtain ⟨a2, c2, rfl, hc2, ho2⟩ := id hf2
        have HT : Hid (Sl byteE 1 y2 a2 E) := Lib.hid (Sl.of_own (fun _ => rfl) ho2)
        have HBy2 : Hid (Below x1.heap.size x1 y2) := Lib.hid (by first | (simpa using hb2) | exact ((Below.refl _ _).drew).trans (by simpa using hb2))
        have HCy2 : Hid (Ch (· ∈ blkOf av) x1 y2) := Lib.hid (HO1.out _ _ HC1.out (Ch.of_below HBy2.out))
        have HFy2 : Hid (FreshIn byteE 5 1 (w.heap.size + 1) y2.heap.size (.slice av L.length cv) L y2) := Lib.hid ((HF1.out.below HBy2.out).mono (Nat.le_refl _) HBy2.out.size)
        have hzy2 := HBy2.out.size
        clear hf2 hc2 ho2 hb2
        refine hK.out _ _ (Or.inr (HSB.out _ HCy2.out)) ?_
        clear hK K'
        try simp only [Act.put,j1,j2,j3,j4,j5,j6]
        refine wpAnyG_br (rs := [4, 8]) (by kernel_rfl) (by simp) ?_
        intro j hj
        simp only [List.mem_cons, List.not_mem_nil, or_false] at hj
        rcases hj with rfl | rfl
        · skip
          refine ⟨_, rfl, fun K' hK => ?_⟩
          simp only [j1,j2,j3]
          rw [if_pos (by rfl)]
          refine step_append_ch (.tmp 25) (.tmp 28) 22 22 (w.heap.size + 1) 5 i0 (.int .u8 0) 1 1 Tryz.underlying22 hi hz0 hz1 hz2 rfl (by decide) av L.length cv L HFy2.out (.slice a2 E.length c2) E (Src.ofSl (enc := byteE) Tryz.underlying22 (fun _ => rfl) byteOneC HT.out _) (by first | omega | (simp; omega)) (by have := HCy2.out.size; have := HB1.out.size; have := HQ.out.2.2.1.size; first | omega | (simp; omega)) ?_ ?_ ?_ ?_
          · rfl
          · rfl
          · rfl
          intro ay3 cy3 y3 usy3 hus hf hch hk
          have hly3 : usy3.length = L.length + E.length := by rw [hus.out, List.length_append]
          have HLy3 := hus
          have HFy3 := Lib.hid hf
          have HBLy3 : Hid (∀ k ∈ blkOf ay3, k ∈ blkOf av ∨ x1.heap.size ≤ k) := Lib.hid (fun k h => by
            rcases hk k h with h | h
            · exact .inl h
            · exact .inr (by have := HCy2.out.size; (try simp at h); omega))
          have HCy3 : Hid (Ch (· ∈ blkOf av) x1 y3) := Lib.hid (HCy2.out.trans hch (fun i hi => .inl hi))
          have hlly3 : usy3.length ≤ 99 := by omega
          have HLEy3 := Lib.hid hly3
          clear hus hf hch hk hly3
          refine hK.out _ _ (Or.inr (HSB.out _ HCy3.out)) ?_
          clear hK K'
          try simp only [Act.put,j1,j2,j3,j4,j5,j6]
          refine wpAnyG_one (i := 8) (by kernel_rfl) rfl ((HSB.out _ HCy3.out)) (fun K' hK => ?_)
          simp only [j1,j2,j3]
          go_simp
          obtain ⟨y4, hx2⟩ : ∃ x, y3.alloc (.cells #[.int .u8 (u.toNat : Int)] 5) = x := ⟨_, rfl⟩
          have hb2 : Below y3.heap.size y3 y4 := by rw [← hx2]; exact (Below.refl _ _).alloc (Nat.le_refl _) _
          have HU : Hid (Sl byteE 1 y4 (some ⟨y3.heap.size, 0, none⟩) [u]) := Lib.hid (by rw [← hx2]; exact boxL' (enc := byteE) (w := y3) (fun _ => rfl) [u] _ _ (by simp [byteE]) _ (by simp))
          have HBy4 : Hid (Below y3.heap.size y3 y4) := Lib.hid (by first | (simpa using hb2) | exact ((Below.refl _ _).drew).trans (by simpa using hb2))
          have HCy4 : Hid (Ch (· ∈ blkOf av) x1 y4) := Lib.hid (HO1.out _ _ HCy3.out (Ch.of_below HBy4.out))
          have HFy4 : Hid (FreshIn byteE 5 1 (w.heap.size + 1) y4.heap.size (.slice ay3 usy3.length cy3) usy3 y4) := Lib.hid ((HFy3.out.below HBy4.out).mono (Nat.le_refl _) HBy4.out.size)
          have hzy4 := HBy4.out.size
          rw [hx2]
          clear hx2 hb2
          refine hK.out _ _ (Or.inr (HSB.out _ HCy4.out)) ?_
          clear hK K'
          try simp only [Act.put,j1,j2,j3,j4,j5,j6]
          refine wpAnyG_one (i := 9) (by kernel_rfl) rfl ((HSB.out _ HCy4.out)) (fun K' hK => ?_)
          simp only [j1,j2,j3]
          rw [if_pos (by rfl)]
          refine step_append_ch (.tmp 29) (.tmp 33) 22 22 (w.heap.size + 1) 5 i0 (.int .u8 0) 1 1 Tryz.underlying22 hi hz0 hz1 hz2 rfl (by decide) ay3 usy3.length cy3 usy3 HFy4.out (.slice (some ⟨y3.heap.size, 0, none⟩) 1 1) [u] (Src.ofSl (enc := byteE) Tryz.underlying22 (fun _ => rfl) byteOneC HU.out _) (by first | omega | (simp; omega)) (by have := HCy4.out.size; have := HB1.out.size; have := HQ.out.2.2.1.size; first | omega | (simp; omega)) ?_ ?_ ?_ ?_
          · rfl
          · rfl
          · rfl
          intro ay5 cy5 y5 usy5 hus hf hch hk
          have hly5 : usy5.length = usy3.length + 1 := by rw [hus.out, List.length_append]; rfl
          have HLy5 := hus
          have HFy5 := Lib.hid hf
          have HBLy5 : Hid (∀ k ∈ blkOf ay5, k ∈ blkOf av ∨ x1.heap.size ≤ k) := Lib.hid (fun k h => by
            rcases hk k h with h | h
            · exact HBLy3.out k h
            · exact .inr (by have := HCy4.out.size; (try simp at h); omega))
          have HCy5 : Hid (Ch (· ∈ blkOf av) x1 y5) := Lib.hid (HCy4.out.trans hch (fun i hi => HBLy3.out i hi))
          have hlly5 : usy5.length ≤ 100 := by omega
          have HLEy5 := Lib.hid hly5
          clear hus hf hch hk hly5
          refine hK.out _ _ (Or.inr (HSB.out _ HCy5.out)) ?_
          clear hK K'
          try simp only [Act.put,j1,j2,j3,j4,j5,j6]
          refine tW ?_ 10 rfl ?_ ?_; rotate_left
          · intro w' hSw; go_simp; try rfl
          try simp only [Act.put,j1,j2,j3,j4,j5,j6]
          refine wpAnyG_done (by kernel_rfl) ?_ _
          go_wp2_with fail
          go_roundw
          case rel =>
            have hfin : usy5 = celL (row.take (x + 1)) := by rw [HLy5.out, HLy3.out, HTK.out, HQ.out.1, List.append_assoc]
            have hbe : Below w.heap.size w y5 := HQ.out.2.2.1.trans ((HB1.out.mono HQ.out.2.2.1.size).trans (HCy5.out.below (by have := HB1.out.size; have := HQ.out.2.2.1.size; omega) (fun k hk => by have := (FreshIn.blks HQ.out.2.1 _ hk).1; omega)))
            have hcc := HB1.out.trans ((Below.refl wr.heap.size x1).mono (Nat.le_refl _))
            refine ⟨x + 1, ay5, cy5, usy5, by omega, by go_num, rfl, ?_, Lib.hid ⟨hfin, HFy5.out, hbe, ?_, ?_, by have := HCy5.out.size; have := HB1.out.size; omega⟩⟩
            · rw [hfin]
              have := celL_le row (x + 1) 24 (by omega)
              omega
            · exact ((HCy5.out.cell (p := ⟨w.heap.size, 0, none⟩) (by show w.heap.size < _; omega) (fun hk => by have h : w.heap.size + 1 ≤ w.heap.size := (FreshIn.blks HQ.out.2.1 _ hk).1; omega)).trans (HB1.out.cell (p := ⟨w.heap.size, 0, none⟩) kl)).trans k_0
            · exact ((HCy5.out.cell (p := ⟨w.heap.size, 10, none⟩) (by show w.heap.size < _; omega) (fun hk => by have h : w.heap.size + 1 ≤ w.heap.size := (FreshIn.blks HQ.out.2.1 _ hk).1; omega)).trans (HB1.out.cell (p := ⟨w.heap.size, 10, none⟩) kl)).trans k_10
          case measure => simp [intOf]; omega
        · skip
          refine ⟨_, rfl, fun K' hK => ?_⟩
          simp only [j1,j2,j3]
          go_simp
          obtain ⟨y6, hx2⟩ : ∃ x, y2.alloc (.cells #[.int .u8 (u.toNat : Int)] 5) = x := ⟨_, rfl⟩
          have hb2 : Below y2.heap.size y2 y6 := by rw [← hx2]; exact (Below.refl _ _).alloc (Nat.le_refl _) _
          have HU : Hid (Sl byteE 1 y6 (some ⟨y2.heap.size, 0, none⟩) [u]) := Lib.hid (by rw [← hx2]; exact boxL' (enc := byteE) (w := y2) (fun _ => rfl) [u] _ _ (by simp [byteE]) _ (by simp))
          have HBy6 : Hid (Below y2.heap.size y2 y6) := Lib.hid (by first | (simpa using hb2) | exact ((Below.refl _ _).drew).trans (by simpa using hb2))
          have HCy6 : Hid (Ch (· ∈ blkOf av) x1 y6) := Lib.hid (HO1.out _ _ HCy2.out (Ch.of_below HBy6.out))
          have HFy6 : Hid (FreshIn byteE 5 1 (w.heap.size + 1) y6.heap.size (.slice av L.length cv) L y6) := Lib.hid ((HFy2.out.below HBy6.out).mono (Nat.le_refl _) HBy6.out.size)
          have hzy6 := HBy6.out.size
          have HTy6 : Hid (Sl byteE 1 y6 a2 E) := Lib.hid (HT.out.keep HBy6.out)
          rw [hx2]
          clear hx2 hb2
          refine hK.out _ _ (Or.inr (HSB.out _ HCy6.out)) ?_
          clear hK K'
          try simp only [Act.put,j1,j2,j3,j4,j5,j6]
          refine wpAnyG_one (i := 4) (by kernel_rfl) rfl ((HSB.out _ HCy6.out)) (fun K' hK => ?_)
          simp only [j1,j2,j3]
          rw [if_pos (by rfl)]
          refine step_append_ch (.tmp 25) (.tmp 28) 22 22 (w.heap.size + 1) 5 i0 (.int .u8 0) 1 1 Tryz.underlying22 hi hz0 hz1 hz2 rfl (by decide) av L.length cv L HFy6.out (.slice a2 E.length c2) E (Src.ofSl (enc := byteE) Tryz.underlying22 (fun _ => rfl) byteOneC HTy6.out _) (by first | omega | (simp; omega)) (by have := HCy6.out.size; have := HB1.out.size; have := HQ.out.2.2.1.size; first | omega | (simp; omega)) ?_ ?_ ?_ ?_
          · rfl
          · rfl
          · rfl
          intro ay7 cy7 y7 usy7 hus hf hch hk
          have hly7 : usy7.length = L.length + E.length := by rw [hus.out, List.length_append]
          have HLy7 := hus
          have HFy7 := Lib.hid hf
          have HBLy7 : Hid (∀ k ∈ blkOf ay7, k ∈ blkOf av ∨ x1.heap.size ≤ k) := Lib.hid (fun k h => by
            rcases hk k h with h | h
            · exact .inl h
            · exact .inr (by have := HCy6.out.size; (try simp at h); omega))
          have HCy7 : Hid (Ch (· ∈ blkOf av) x1 y7) := Lib.hid (HCy6.out.trans hch (fun i hi => .inl hi))
          have HUy7 : Hid (Sl byteE 1 y7 (some ⟨y2.heap.size, 0, none⟩) [u]) := Lib.hid (Sl.ch HU.out hch (fun k hk hb => by
            simp only [blkOf, List.mem_singleton] at hk
            subst hk
            have h1 := (FreshIn.blks HQ.out.2.1 _ hb).2
            have h2 := HB1.out.size
            omega))
          have hlly7 : usy7.length ≤ 99 := by omega
          have HLEy7 := Lib.hid hly7
          clear hus hf hch hk hly7
          refine hK.out _ _ (Or.inr (HSB.out _ HCy7.out)) ?_
          clear hK K'
          try simp only [Act.put,j1,j2,j3,j4,j5,j6]
          refine wpAnyG_one (i := 9) (by kernel_rfl) rfl ((HSB.out _ HCy7.out)) (fun K' hK => ?_)
          simp only [j1,j2,j3]
          rw [if_pos (by rfl)]
          refine step_append_ch (.tmp 29) (.tmp 33) 22 22 (w.heap.size + 1) 5 i0 (.int .u8 0) 1 1 Tryz.underlying22 hi hz0 hz1 hz2 rfl (by decide) ay7 usy7.length cy7 usy7 HFy7.out (.slice (some ⟨y2.heap.size, 0, none⟩) 1 1) [u] (Src.ofSl (enc := byteE) Tryz.underlying22 (fun _ => rfl) byteOneC HUy7.out _) (by first | omega | (simp; omega)) (by have := HCy7.out.size; have := HB1.out.size; have := HQ.out.2.2.1.size; first | omega | (simp; omega)) ?_ ?_ ?_ ?_
          · rfl
          · rfl
          · rfl
          intro ay8 cy8 y8 usy8 hus hf hch hk
          have hly8 : usy8.length = usy7.length + 1 := by rw [hus.out, List.length_append]; rfl
          have HLy8 := hus
          have HFy8 := Lib.hid hf
          have HBLy8 : Hid (∀ k ∈ blkOf ay8, k ∈ blkOf av ∨ x1.heap.size ≤ k) := Lib.hid (fun k h => by
            rcases hk k h with h | h
            · exact HBLy7.out k h
            · exact .inr (by have := HCy7.out.size; (try simp at h); omega))
          have HCy8 : Hid (Ch (· ∈ blkOf av) x1 y8) := Lib.hid (HCy7.out.trans hch (fun i hi => HBLy7.out i hi))
          have hlly8 : usy8.length ≤ 100 := by omega
          have HLEy8 := Lib.hid hly8
          clear hus hf hch hk hly8
          refine hK.out _ _ (Or.inr (HSB.out _ HCy8.out)) ?_
          clear hK K'
          try simp only [Act.put,j1,j2,j3,j4,j5,j6]
          refine tW ?_ 10 rfl ?_ ?_; rotate_left
          · intro w' hSw; go_simp; try rfl
          try simp only [Act.put,j1,j2,j3,j4,j5,j6]
          refine wpAnyG_done (by kernel_rfl) ?_ _
          go_wp2_with fail
          go_roundw
          case rel =>
            have hfin : usy8 = celL (row.take (x + 1)) := by rw [HLy8.out, HLy7.out, HTK.out, HQ.out.1, List.append_assoc]
            have hbe : Below w.heap.size w y8 := HQ.out.2.2.1.trans ((HB1.out.mono HQ.out.2.2.1.size).trans (HCy8.out.below (by have := HB1.out.size; have := HQ.out.2.2.1.size; omega) (fun k hk => by have := (FreshIn.blks HQ.out.2.1 _ hk).1; omega)))
            have hcc := HB1.out.trans ((Below.refl wr.heap.size x1).mono (Nat.le_refl _))
            refine ⟨x + 1, ay8, cy8, usy8, by omega, by go_num, rfl, ?_, Lib.hid ⟨hfin, HFy8.out, hbe, ?_, ?_, by have := HCy8.out.size; have := HB1.out.size; omega⟩⟩
            · rw [hfin]
              have := celL_le row (x + 1) 24 (by omega)
              omega
            · exact ((HCy8.out.cell (p := ⟨w.heap.size, 0, none⟩) (by show w.heap.size < _; omega) (fun hk => by have h : w.heap.size + 1 ≤ w.heap.size := (FreshIn.blks HQ.out.2.1 _ hk).1; omega)).trans (HB1.out.cell (p := ⟨w.heap.size, 0, none⟩) kl)).trans k_0
            · exact ((HCy8.out.cell (p := ⟨w.heap.size, 10, none⟩) (by show w.heap.size < _; omega) (fun hk => by have h : w.heap.size + 1 ≤ w.heap.size := (FreshIn.blks HQ.out.2.1 _ hk).1; omega)).trans (HB1.out.cell (p := ⟨w.heap.size, 10, none⟩) kl)).trans k_10
          case measure => simp [intOf]; omega
      · skip
        refine ⟨_, rfl, fun K' hK => ?_⟩
        simp only [j1,j2,j3]
        go_simp
        obtain ⟨y9, hx2⟩ : ∃ x, (x1.alloc (.cells #[.int .u8 (u.toNat : Int)] 5)).drew = x := ⟨_, rfl⟩
        have hb2 : Below x1.heap.size x1 y9 := by rw [← hx2]; exact ((Below.refl _ _).alloc (Nat.le_refl _) _).drew
        have HU : Hid (Sl byteE 1 y9 (some ⟨x1.heap.size, 0, none⟩) [u]) := Lib.hid (by rw [← hx2]; exact boxL' (enc := byteE) (w := x1.drew) (fun _ => rfl) [u] _ _ (by simp [byteE]) _ (by simp))
        have HBy9 : Hid (Below x1.heap.size x1 y9) := Lib.hid (by first | (simpa using hb2) | exact ((Below.refl _ _).drew).trans (by simpa using hb2))
        have HCy9 : Hid (Ch (· ∈ blkOf av) x1 y9) := Lib.hid (HO1.out _ _ HC1.out (Ch.of_below HBy9.out))
        have HFy9 : Hid (FreshIn byteE 5 1 (w.heap.size + 1) y9.heap.size (.slice av L.length cv) L y9) := Lib.hid ((HF1.out.below HBy9.out).mono (Nat.le_refl _) HBy9.out.size)
        have hzy9 := HBy9.out.size
        rw [hx2]
        clear hx2 hb2
        refine hK.out _ _ (Or.inr (HSB.out _ HCy9.out)) ?_
        clear hK K'
        try simp only [Act.put,j1,j2,j3,j4,j5,j6]
        refine wpAnyG_one (i := 3) (by kernel_rfl) rfl ((HSB.out _ HCy9.out)) (fun K' hK => ?_)
        simp only [j1,j2,j3]
        go_simp
        go_at_call 128
        refine (HCALL.out _).mono ?_
        rintro e y10 ⟨v2, rfl, hf2, hb2⟩
        obtain ⟨a2, c2, rfl, hc2, ho2⟩ := id hf2
        have HT : Hid (Sl byteE 1 y10 a2 E) := Lib.hid (Sl.of_own (fun _ => rfl) ho2)
        have HBy10 : Hid (Below y9.heap.size y9 y10) := Lib.hid (by first | (simpa using hb2) | exact ((Below.refl _ _).drew).trans (by simpa using hb2))
        have HCy10 : Hid (Ch (· ∈ blkOf av) x1 y10) := Lib.hid (HO1.out _ _ HCy9.out (Ch.of_below HBy10.out))
        have HFy10 : Hid (FreshIn byteE 5 1 (w.heap.size + 1) y10.heap.size (.slice av L.length cv) L y10) := Lib.hid ((HFy9.out.below HBy10.out).mono (Nat.le_refl _) HBy10.out.size)
        have hzy10 := HBy10.out.size
        have HUy10 : Hid (Sl byteE 1 y10 (some ⟨x1.heap.size, 0, none⟩) [u]) := Lib.hid (HU.out.keep HBy10.out)
        clear hf2 hc2 ho2 hb2
        refine hK.out _ _ (Or.inr (HSB.out _ HCy10.out)) ?_
        clear hK K'
        try simp only [Act.put,j1,j2,j3,j4,j5,j6]
        refine wpAnyG_one (i := 4) (by kernel_rfl) rfl ((HSB.out _ HCy10.out)) (fun K' hK => ?_)
        simp only [j1,j2,j3]
        rw [if_pos (by rfl)]
        refine step_append_ch (.tmp 25) (.tmp 28) 22 22 (w.heap.size + 1) 5 i0 (.int .u8 0) 1 1 Tryz.underlying22 hi hz0 hz1 hz2 rfl (by decide) av L.length cv L HFy10.out (.slice a2 E.length c2) E (Src.ofSl (enc := byteE) Tryz.underlying22 (fun _ => rfl) byteOneC HT.out _) (by first | omega | (simp; omega)) (by have := HCy10.out.size; have := HB1.out.size; have := HQ.out.2.2.1.size; first | omega | (simp; omega)) ?_ ?_ ?_ ?_
        · rfl
        · rfl
        · rfl
        intro ay11 cy11 y11 usy11 hus hf hch hk
        have hly11 : usy11.length = L.length + E.length := by rw [hus.out, List.length_append]
        have HLy11 := hus
        have HFy11 := Lib.hid hf
        have HBLy11 : Hid (∀ k ∈ blkOf ay11, k ∈ blkOf av ∨ x1.heap.size ≤ k) := Lib.hid (fun k h => by
          rcases hk k h with h | h
          · exact .inl h
          · exact .inr (by have := HCy10.out.size; (try simp at h); omega))
        have HCy11 : Hid (Ch (· ∈ blkOf av) x1 y11) := Lib.hid (HCy10.out.trans hch (fun i hi => .inl hi))
        have HUy11 : Hid (Sl byteE 1 y11 (some ⟨x1.heap.size, 0, none⟩) [u]) := Lib.hid (Sl.ch HUy10.out hch (fun k hk hb => by
          simp only [blkOf, List.mem_singleton] at hk
          subst hk
          have h1 := (FreshIn.blks HQ.out.2.1 _ hb).2
          have h2 := HB1.out.size
          omega))
        have hlly11 : usy11.length ≤ 99 := by omega
        have HLEy11 := Lib.hid hly11
        clear hus hf hch hk hly11
        refine hK.out _ _ (Or.inr (HSB.out _ HCy11.out)) ?_
        clear hK K'
        try simp only [Act.put,j1,j2,j3,j4,j5,j6]
        refine wpAnyG_one (i := 9) (by kernel_rfl) rfl ((HSB.out _ HCy11.out)) (fun K' hK => ?_)
        simp only [j1,j2,j3]
        rw [if_pos (by rfl)]
        refine step_append_ch (.tmp 29) (.tmp 33) 22 22 (w.heap.size + 1) 5 i0 (.int .u8 0) 1 1 Tryz.underlying22 hi hz0 hz1 hz2 rfl (by decide) ay11 usy11.length cy11 usy11 HFy11.out (.slice (some ⟨x1.heap.size, 0, none⟩) 1 1) [u] (Src.ofSl (enc := byteE) Tryz.underlying22 (fun _ => rfl) byteOneC HUy11.out _) (by first | omega | (simp; omega)) (by have := HCy11.out.size; have := HB1.out.size; have := HQ.out.2.2.1.size; first | omega | (simp; omega)) ?_ ?_ ?_ ?_
        · rfl
        · rfl
        · rfl
        intro ay12 cy12 y12 usy12 hus hf hch hk
        have hly12 : usy12.length = usy11.length + 1 := by rw [hus.out, List.length_append]; rfl
        have HLy12 := hus
        have HFy12 := Lib.hid hf
        have HBLy12 : Hid (∀ k ∈ blkOf ay12, k ∈ blkOf av ∨ x1.heap.size ≤ k) := Lib.hid (fun k h => by
          rcases hk k h with h | h
          · exact HBLy11.out k h
          · exact .inr (by have := HCy11.out.size; (try simp at h); omega))
        have HCy12 : Hid (Ch (· ∈ blkOf av) x1 y12) := Lib.hid (HCy11.out.trans hch (fun i hi => HBLy11.out i hi))
        have hlly12 : usy12.length ≤ 100 := by omega
        have HLEy12 := Lib.hid hly12
        clear hus hf hch hk hly12
        refine hK.out _ _ (Or.inr (HSB.out _ HCy12.out)) ?_
        clear hK K'
        try simp only [Act.put,j1,j2,j3,j4,j5,j6]
        refine tW ?_ 10 rfl ?_ ?_; rotate_left
        · intro w' hSw; go_simp; try rfl
        try simp only [Act.put,j1,j2,j3,j4,j5,j6]
        refine wpAnyG_done (by kernel_rfl) ?_ _
        go_wp2_with fail
        go_roundw
        case rel =>
          have hfin : usy12 = celL (row.take (x + 1)) := by rw [HLy12.out, HLy11.out, HTK.out, HQ.out.1, List.append_assoc]
          have hbe : Below w.heap.size w y12 := HQ.out.2.2.1.trans ((HB1.out.mono HQ.out.2.2.1.size).trans (HCy12.out.below (by have := HB1.out.size; have := HQ.out.2.2.1.size; omega) (fun k hk => by have := (FreshIn.blks HQ.out.2.1 _ hk).1; omega)))
          have hcc := HB1.out.trans ((Below.refl wr.heap.size x1).mono (Nat.le_refl _))
          refine ⟨x + 1, ay12, cy12, usy12, by omega, by go_num, rfl, ?_, Lib.hid ⟨hfin, HFy12.out, hbe, ?_, ?_, by have := HCy12.out.size; have := HB1.out.size; omega⟩⟩
          · rw [hfin]
            have := celL_le row (x + 1) 24 (by omega)
            omega
          · exact ((HCy12.out.cell (p := ⟨w.heap.size, 0, none⟩) (by show w.heap.size < _; omega) (fun hk => by have h : w.heap.size + 1 ≤ w.heap.size := (FreshIn.blks HQ.out.2.1 _ hk).1; omega)).trans (HB1.out.cell (p := ⟨w.heap.size, 0, none⟩) kl)).trans k_0
          · exact ((HCy12.out.cell (p := ⟨w.heap.size, 10, none⟩) (by show w.heap.size < _; omega) (fun hk => by have h : w.heap.size + 1 ≤ w.heap.size := (FreshIn.blks HQ.out.2.1 _ hk).1; omega)).trans (HB1.out.cell (p := ⟨w.heap.size, 10, none⟩) kl)).trans k_10
        case measure => simp [intOf]; omega
    · obtain rfl : x = wd := by omega
      have htk : row.take x = row := List.take_of_length_le (by rw [HRL.out]; exact Nat.le_refl _)
      have HLL : Hid (L = celL row) := Lib.hid (by rw [HQ.out.1, htk])
      clear htk
      have HLF : Hid (Sl byteE 1 wr av L) := Lib.hid (HQ.out.2.1.sl (fun _ => rfl))
      have hcv : (convert 22 9 (.slice av L.length cv)).run Tryz.prog wr = .ok (.string (strOf L)) wr := convS HLF.out
      go_wp2_with fail
      go_ret
      exact ⟨by rw [HLL.out]; rfl, HQ.out.2.2.1⟩
end
section
open Go.RowKit
theorem maskU (a : Nat) (ha : a < 4294967296) : bits .and .u64 (a : Int) 4294967295 = (a : Int) := by
  have h := bits_and_u64_nat a 4294967295 (by omega) (by omega)
  have e : a &&& 4294967295 = a % 4294967296 := Nat.and_two_pow_sub_one_eq_mod a 32
  rw [e, Nat.mod_eq_of_lt ha] at h
  exact h
theorem mul64_c (c : Nat) (hc : c ≤ 240) (w : World) :
    Calls Tryz.prog 155 #[.int .u64 1, .int .u64 c] w fun e w' => e = .returned (.tuple #[.int .u64 0, .int .u64 c]) ∧ w = w' := by
  have h1 : bits .and .u64 (1 : Int) 4294967295 = 1 := maskU 1 (by omega)
  have h0 : bits .and .u64 (0 : Int) 4294967295 = 0 := maskU 0 (by omega)
  have h2 : bits .and .u64 (c : Int) 4294967295 = (c : Int) := maskU c (by omega)
  have h3 : (c : Int) / 4294967296 = 0 := by omega
  go_enter Tryz.func155, Tryz.ntmps155
  go_wp2_with fail
  go_ret2
  exact ⟨rfl, rfl⟩
theorem mul_c (c : Nat) (hc : c ≤ 240) (w : World) :
    Calls Tryz.prog 144 #[.int .u64 1, .int .u64 c] w fun e w' => e = .returned (.tuple #[.int .u64 0, .int .u64 c]) ∧ w = w' := by
  go_enter Tryz.func144, Tryz.ntmps144
  go_wp2_with fail
  refine (mul64_c c hc _).mono ?_
  rintro e w' ⟨rfl, rfl⟩
  go_wp2_with fail
  go_ret2
  exact ⟨rfl, rfl⟩
def repB (n c : Nat) : List Cl := blanksL n ++ List.replicate (c - n) ((0 : Int), (0 : Int))
theorem repB_len {n c : Nat} (h : n ≤ c) : (repB n c).length = c := by simp [repB, blanksL]; omega
theorem repB_splice {n m c : Nat} (h : n + m ≤ c) : splice (repB n c) n (blanksL m) = repB (n + m) c := by
  unfold splice repB
  have hl : (blanksL n).length = n := by simp [blanksL]
  have hm : (blanksL m).length = m := by simp [blanksL]
  rw [List.take_left' hl, hm, ← List.drop_drop, List.drop_left' hl, List.drop_replicate, show c - n - m = c - (n + m) by omega]
  simp only [blanksL, ← List.append_assoc, List.replicate_append_replicate]
theorem repB_pre {n c : Nat} (m : Nat) (h : m ≤ n) : (repB n c).take m = blanksL m := by
  have hl : (blanksL n).length = n := by simp [blanksL]
  rw [repB, List.take_append_of_le_length (by omega), blanksL, List.take_replicate, Nat.min_eq_left h]
  rfl
theorem FreshIn.sl' {α : Type} {enc : α → List Value} {sz : Nat} {e : TypeId} {lo hi n c : Nat} {a : Option Addr} {xs : List α} {w : World} (hs : ∀ x, (enc x).length = sz) (h : FreshIn enc e sz lo hi (.slice a n c) xs w) : Sl enc sz w a xs := by
  have := h.len
  subst this
  exact h.sl hs
theorem repB_madeW (n : Nat) : repB 0 n = List.replicate n ((0 : Int), (0 : Int)) := by simp [repB, blanksL]
theorem Sl.take' {α : Type} {enc : α → List Value} {sz : Nat} {w : World} {a : Option Addr} {xs : List α} (h : Sl enc sz w a xs) (n : Nat) : Sl enc sz w a (xs.take n) := by
  rcases h with rfl | ⟨b, off, rfl, hb, hc⟩
  · simp only [List.take_nil]
    exact Sl.nil
  · refine .inr ⟨b, off, rfl, hb, fun i hi j hj => ?_⟩
    have hi' : i < xs.length := by rw [List.length_take] at hi; omega
    rw [hc i hi' j hj, List.getElem_take]
theorem repeatB_c (b ca c : Nat) (hc : c ≤ 240) (h1 : 1 ≤ c) (w : World) (hs : Sl celE 2 w (some ⟨b, 0, none⟩) [blank]) (hb : b < w.heap.size) :
    Calls Tryz.prog 126 #[.slice (some ⟨b, 0, none⟩) 1 ca, .int .i64 c] w (FreshR celE 87 2 w (blanksL c)) := by
  obtain ⟨i0, hi, hz0, hz1, hz2⟩ := info_parts Tryz.infoCell
  have HS := Lib.hid hs
  have hcu : (c : Int) ≤ 9223372036854775807 := by omega
  have hc0 : (0 : Int) ≤ (c : Int) := by omega
  clear hs
  go_enter Tryz.func126, Tryz.ntmps126
  go_wp2_with fail
  refine (mul_c c hc _).mono ?_
  rintro e w1 ⟨rfl, rfl⟩
  go_wp2_with (at_make; refine wpList_make_full _ rfl _ _ 23 rfl w.heap.size 87 i0 (.agg #[.int .i64 0, .int .i64 0]) 2 Tryz.underlying23 hi hz0 hz1 .i64 .i64 _ _ c rfl rfl rfl rfl ?c1 ?c2 ?c3 ?_)
  case c1 => rw [hz2]; omega
  case c2 => unfold maxLen; omega
  case c3 => exact Nat.le_refl _
  intro w1 hown hg
  have hm := madeCells_flat celE 2 ((0 : Int), (0 : Int)) #[.int .i64 0, .int .i64 0] rfl (fun _ => rfl) c
  have hf1 : FreshIn celE 87 2 w.heap.size w1.heap.size (.slice (some ⟨w.heap.size, 0, none⟩) c c) (repB 0 c) w1 := by
    refine (Fresh.of_own (n := c) (cs := (repB 0 c).flatMap celE) ?_ (by rw [repB_len (by omega)]) rfl).here
    rw [repB_madeW, ← hm]
    exact hown
  have hb1 : Below w.heap.size w w1 := (Below.refl _ _).grown hg (Nat.le_refl _) (by simp)
  obtain ⟨w2, hcp, hf2, hch⟩ := run_copy_fresh (P := Tryz.prog) (enc := celE) (sz := 2) (w := w1) (g := w.heap.size) (dLen := c) (dCap := c) (sLen := 1) (sCap := ca) (dp := some ⟨w.heap.size, 0, none⟩) (sp := some ⟨b, 0, none⟩) (off := 0) 23 23 3 87 Tryz.underlying23 (by kernel_rfl) (fun _ => rfl) celOne hf1 [blank] (by show 1 = min 1 c; omega) (fun _ => ⟨by simp, HS.out.keep hb1⟩) (by rw [repB_len (by omega)]; exact h1)
  have hcp' : (Builtin.copy_ #[23, 23] 3 #[.slice (some ⟨w.heap.size, 0, none⟩) c c, .slice (some ⟨b, 0, none⟩) 1 ca]).run Tryz.prog w1 = .ok (.int .i64 1) w2 := hcp
  have HF2 : Hid (FreshIn celE 87 2 w.heap.size w2.heap.size (.slice (some ⟨w.heap.size, 0, none⟩) c c) (repB 1 c) w2) := Lib.hid (by
    have e := repB_splice (n := 0) (m := 1) (c := c) (by omega)
    rw [show 0 + 1 = 1 by omega] at e
    rw [← e]
    exact hf2.mono (Nat.le_refl _) hch.size)
  have HB2 : Hid (Below w.heap.size w w2) := Lib.hid (hb1.trans (hch.below hb1.size (fun k h => by omega)))
  clear hm hown hg hf1 hb1 hcp hf2 hch
  go_wp2_with fail
  clear hcp'
  go_loopw [8] (fun nv wr => ∃ n : Nat, nv = .int .i64 n ∧ 1 ≤ n ∧ n ≤ c ∧ Hid (FreshIn celE 87 2 w.heap.size wr.heap.size (.slice (some ⟨w.heap.size, 0, none⟩) c c) (repB n c) wr ∧ Below w.heap.size w wr)) (fun nv _ => c - (intOf nv).toNat)
  case atStart => exact ⟨1, rfl, Nat.le_refl _, h1, Lib.hid ⟨HF2.out, HB2.out⟩⟩
  case round =>
    obtain ⟨n, rfl, hn1, hnc, HQ⟩ := hrel
    by_cases hlt : n < c
    · have hlt' : (n : Int) < (c : Int) := by omega
      have hn0 : (0 : Int) ≤ (n : Int) := by omega
      have hle : (n : Int) ≤ (c : Int) := by omega
      obtain ⟨m, hm⟩ : ∃ m, m = min n (c - n) := ⟨_, rfl⟩
      have hm1 : 1 ≤ m := by omega
      have hm2 : n + m ≤ c := by omega
      have hcn : ¬ c = n := by omega
      have em : IntKind.i64.wrap ((n : Int) + (m : Int)) = (n : Int) + (m : Int) := IntWalk.i64_in _ ⟨by omega, by omega⟩
      have HM := Lib.hid hm
      have HFD : Hid (FreshIn celE 87 2 w.heap.size wr.drew.heap.size (.slice (some ⟨w.heap.size, 0, none⟩) c c) (repB n c) wr.drew) := Lib.hid HQ.out.1.drew
      have HSL : Hid (Sl celE 2 wr.drew (some ⟨w.heap.size, 0, none⟩) (blanksL m)) := Lib.hid (by
        have := FreshIn.sl' (enc := celE) (sz := 2) (fun _ => rfl) HFD.out
        rw [← repB_pre (n := n) (c := c) m (by omega)]
        exact Sl.take' this m)
      clear hm
      go_upto_region 9 with fail
      refine wp_region_G (fun w' => True) (fun i => false) (by kernel_rfl) trivial ?_
      refine tW ?_ 0 rfl ?_ ?_; rotate_left
      · intro w' hSw; go_simp; try rfl
      try simp only [Act.put,j1,j2,j3,j4,j5,j6]
      refine tW ?_ 1 rfl ?_ ?_; rotate_left
      · intro w' hSw; go_simp; try rfl
      try simp only [Act.put,j1,j2,j3,j4,j5,j6]
      refine tW ?_ 2 rfl ?_ ?_; rotate_left
      · intro w' hSw; go_simp; try rfl
      try simp only [Act.put,j1,j2,j3,j4,j5,j6]
      refine tW ?_ 3 rfl ?_ ?_; rotate_left
      · intro w' hSw; go_simp; try rfl
      try simp only [Act.put,j1,j2,j3,j4,j5,j6]
      refine tW ?_ 4 rfl ?_ ?_; rotate_left
      · intro w' hSw; go_simp; try rfl
      try simp only [Act.put,j1,j2,j3,j4,j5,j6]
      refine tW ?_ 5 rfl ?_ ?_; rotate_left
      · intro w' hSw; go_simp; try rfl
      try simp only [Act.put,j1,j2,j3,j4,j5,j6]
      refine tW ?_ 6 rfl ?_ ?_; rotate_left
      · intro w' hSw; go_simp; try rfl
      try simp only [Act.put,j1,j2,j3,j4,j5,j6]
      refine wpAnyG_one (i := 7) (by kernel_rfl) rfl trivial (fun K' hK => ?_)
      simp only [j1,j2,j3]
      rw [if_pos (by rfl)]
      refine step_copy_fresh (enc := celE) (sz := 2) (.tmp 41) (.tmp 44) 23 23 87 Tryz.underlying23 (by kernel_rfl) (fun _ => rfl) celOne HFD.out (dp := some ⟨w.heap.size, n * 2, none⟩) (dLen := c - n) (dCap := c - n) (sp := some ⟨w.heap.size, 0, none⟩) (sLen := n) (sCap := c) (off := n) (blanksL m) (by have := HM.out; simp only [blanksL, List.length_replicate]; exact this) (fun _ => ⟨rfl, HSL.out⟩) (by rw [repB_len hnc]; simp [blanksL]; omega) rfl (by simp [Act.eval, Act.put, hcn]) (by simp [Act.eval, Act.put, hcn]) ?_
      intro w3 hf3 hc3
      rw [repB_splice hm2] at hf3
      have HF3 : Hid (FreshIn celE 87 2 w.heap.size w3.heap.size (.slice (some ⟨w.heap.size, 0, none⟩) c c) (repB (n + m) c) w3) := Lib.hid (hf3.mono (Nat.le_refl _) hc3.size)
      have HB3 : Hid (Below w.heap.size w w3) := Lib.hid (HQ.out.2.trans (((Below.refl _ _).drew).trans (hc3.below HQ.out.2.size (fun k h => by omega))))
      clear hf3 hc3
      refine hK.out _ _ (Or.inr trivial) ?_
      clear hK K'
      try simp only [Act.put,j1,j2,j3,j4,j5,j6]
      simp only [goInt]
      have hbl : (blanksL m).length = m := by simp [blanksL]
      rw [hbl]
      refine tW ?_ 8 rfl ?_ ?_; rotate_left
      · intro w' hSw; go_simp; try rfl
      try simp only [Act.put,j1,j2,j3,j4,j5,j6]
      refine tW ?_ 9 rfl ?_ ?_; rotate_left
      · intro w' hSw; go_simp; try rfl
      try simp only [Act.put,j1,j2,j3,j4,j5,j6]
      refine wpAnyG_done (by kernel_rfl) ?_ _
      go_wp2_with fail
      go_roundw
      case rel => exact ⟨n + m, by first | rfl | (congr 1; omega), by omega, by omega, Lib.hid ⟨HF3.out, HB3.out⟩⟩
      case measure => simp [intOf]; omega
    · obtain rfl : n = c := by omega
      go_wp2_with fail
      go_ret
      have e : repB n n = blanksL n := by simp [repB]
      have hl : n = (blanksL n).length := by simp [blanksL]
      have h2 := HQ.out.1.1
      rw [e] at h2
      exact ⟨_, rfl, h2, HQ.out.2⟩
theorem blank_c (w : World) : Calls Tryz.prog 127 #[] w fun e w' => e = .returned (.agg #[.int .i64 32, .int .i64 0]) ∧ Below w.heap.size w w' := by
  go_enter Tryz.func127, Tryz.ntmps127
  go_wp2_with fail
  refine bodyPost_ret (v := .agg #[.int .i64 32, .int .i64 0]) (by simp [results, Tryz.results127, go_sem]) rfl ?_
  exact ⟨rfl, (Below.refl _ _).alloc (Nat.le_refl _) _⟩
theorem blanks_c (c : Nat) (hc : c ≤ 240) (h1 : 1 ≤ c) (w : World) : Calls Tryz.prog 95 #[.int .i64 c] w (FreshR celE 87 2 w (blanksL c)) := by
  go_enter Tryz.func95, Tryz.ntmps95
  go_wp2_with fail
  refine (blank_c _).mono ?_
  rintro e w1 ⟨rfl, hb1⟩
  have HB1 := Lib.hid hb1
  clear hb1
  go_wp2_with fail
  refine (repeatB_c w1.heap.size 1 c hc h1 _ (boxL' (enc := celE) (w := w1) (fun _ => rfl) [blank] _ _ (by simp [celE, blank]) _ rfl) (by simp)).mono ?_
  rintro e w2 ⟨v2, rfl, hf2, hb2⟩
  have HF2 := Lib.hid hf2
  have HB2 := Lib.hid hb2
  clear hf2 hb2
  go_wp2_with fail
  go_ret
  refine ⟨_, rfl, HF2.out.mono (by have := HB1.out.size; simp; omega), ?_⟩
  exact (HB1.out.alloc HB1.out.size _).trans (HB2.out.mono (by have := HB1.out.size; simp; omega))
end
section
open Go.RowKit
theorem newScreen_c (wd ht : Nat) (w : World) (h1 : wd ≤ 24) (h2 : ht ≤ 10) (h3 : 1 ≤ ht) (h4 : 1 ≤ wd) :
    Calls Tryz.prog 58 #[.int .i64 wd, .int .i64 ht] w (ScrN (newS wd ht) w) := by
  obtain ⟨n, hn⟩ : ∃ n, wd * ht = n := ⟨_, rfl⟩
  have hn2 : n ≤ 240 := by rw [← hn]; exact Nat.mul_le_mul h1 h2
  have hn1 : 1 ≤ n := by rw [← hn]; exact Nat.mul_pos (by omega) (by omega)
  have hq : (wd : Int) * (ht : Int) = (n : Int) := by rw [← hn]; exact (Int.natCast_mul wd ht).symm
  have hq2 : (ht : Int) - 1 = ((ht - 1 : Nat) : Int) := by omega
  have HN := Lib.hid hn
  clear hn
  go_enter Tryz.func58, Tryz.ntmps58
  go_wp2_with fail
  refine (blanks_c n hn2 hn1 _).mono ?_
  rintro e w1 ⟨v1, rfl, hf, hb⟩
  obtain ⟨a, c, rfl, _⟩ := id hf
  have hbl : (blanksL n).length = n := by simp [blanksL]
  rw [hbl] at hf ⊢
  have HF : Hid (FreshIn celE 87 2 (w.heap.size + 1) w1.heap.size (.slice a n c) (blanksL n) w1) := Lib.hid (by have := hf.here; simpa using this)
  have HB := Lib.hid hb
  have z1_0 : w1.cell? ⟨w.heap.size, 0, none⟩ = some (.int .i64 0) := kC hb (by simp) (by simp [go_sem])
  have z1_1 : w1.cell? ⟨w.heap.size, 1, none⟩ = some (.int .i64 0) := kC hb (by simp) (by simp [go_sem])
  have z1_2 : w1.cell? ⟨w.heap.size, 2, none⟩ = some (.int .i64 0) := kC hb (by simp) (by simp [go_sem])
  have z1_3 : w1.cell? ⟨w.heap.size, 3, none⟩ = some (.int .i64 0) := kC hb (by simp) (by simp [go_sem])
  have z1_4 : w1.cell? ⟨w.heap.size, 4, none⟩ = some (.int .i64 0) := kC hb (by simp) (by simp [go_sem])
  have z1_5 : w1.cell? ⟨w.heap.size, 5, none⟩ = some (.int .i64 0) := kC hb (by simp) (by simp [go_sem])
  have z1_6 : w1.cell? ⟨w.heap.size, 6, none⟩ = some (.int .i64 0) := kC hb (by simp) (by simp [go_sem])
  have z1_7 : w1.cell? ⟨w.heap.size, 7, none⟩ = some (.int .i64 0) := kC hb (by simp) (by simp [go_sem])
  have z1_8 : w1.cell? ⟨w.heap.size, 8, none⟩ = some (.int .i64 0) := kC hb (by simp) (by simp [go_sem])
  have z1_9 : w1.cell? ⟨w.heap.size, 9, none⟩ = some (.string ⟨#[]⟩) := kC hb (by simp) (by simp [go_sem])
  have z1_10 : w1.cell? ⟨w.heap.size, 10, none⟩ = some (.slice none 0 0) := kC hb (by simp) (by simp [go_sem])
  have z1_11 : w1.cell? ⟨w.heap.size, 11, none⟩ = some (.slice none 0 0) := kC hb (by simp) (by simp [go_sem])
  have z1_l : w.heap.size < w1.heap.size := (by have := hb.size; simp at this; omega)
  have z1_f : ∀ o, w1.frozen? ⟨w.heap.size, o, none⟩ = false := fun o => (hb.frozen (p := ⟨w.heap.size, o, none⟩) (by show w.heap.size < _; simp)).trans (by simp [go_sem])
  clear hf hb hbl
  go_wp2_with fail
  refine bodyPost_ret (v := .agg #[.int .i64 wd, .int .i64 ht, .int .i64 0, .int .i64 0, .int .i64 0, .int .i64 0, .int .i64 ((ht - 1 : Nat) : Int), .int .i64 0, .int .i64 0, .string ⟨#[]⟩, .slice a n c, .slice none 0 0]) (by simp [results, Tryz.results58, go_sem, z1_0, z1_1, z1_2, z1_3, z1_4, z1_5, z1_6, z1_7, z1_8, z1_9, z1_10, z1_11, z1_f]) rfl ?_
  have hlen : (newS wd ht).cells.length = n := by rw [← HN.out]; simp [newS, blanksL]
  have hcl : (newS wd ht).cells = blanksL n := by rw [← HN.out]; rfl
  refine ⟨a, c, none, 0, by unfold scrV; rw [hlen]; rfl, ⟨?_, Win.nil, fun k hk => by cases hk⟩, ?_⟩
  · rw [hlen, hcl]
    exact (HF.out.ch ((((((((((((((Ch.refl (M := fun k => k = w.heap.size) (w := w1))).setB 0 _).setB 1 _).setB 2 _).setB 3 _).setB 4 _).setB 5 _).setB 6 _).setB 7 _).setB 8 _).setB 9 _).setB 10 _).setB 11 _) (fun k hk e => by have := (FreshIn.blks HF.out k hk).1; omega)).mono (by omega) (Nat.le_refl _)
  · exact (((((((((((((((Below.refl w.heap.size w).alloc (Nat.le_refl _) _).trans (HB.out.mono (by simp))).setCell (Nat.le_refl _) _).setCell (Nat.le_refl _) _).setCell (Nat.le_refl _) _).setCell (Nat.le_refl _) _).setCell (Nat.le_refl _) _).setCell (Nat.le_refl _) _).setCell (Nat.le_refl _) _).setCell (Nat.le_refl _) _).setCell (Nat.le_refl _) _).setCell (Nat.le_refl _) _).setCell (Nat.le_refl _) _).setCell (Nat.le_refl _) _)
theorem cloneStrs_c (a : Option Addr) (ca : Nat) (xs : List ByteArray) (w : World) (ha : Sl strE 1 w a xs) (la : xs.length ≤ 1048576) :
    Calls Tryz.prog 59 #[.slice a xs.length ca] w (FreshR strE 9 1 w xs) := by
  obtain ⟨i0, hi, hz0, hz1, hz2⟩ := info_parts Tryz.infoStr
  cases a with
  | none =>
    obtain rfl : xs = [] := by
      rcases ha with h | ⟨b, o, h, _⟩
      · exact h
      · cases h
    clear ha
    have hnil : ∀ w, (binOp .eql 24 (.slice none 0 ca) (.slice none 0 0)).run Tryz.prog w = .ok (.bool true) w := fun w => Lib.run_eql_slice_nil w _ _ _ _ _ _ _ Tryz.underlying24
    go_enter Tryz.func59, Tryz.ntmps59
    go_wp2_with fail
    go_ret
    exact ⟨_, rfl, (FreshIn.nil _ _ _ _ 0 _).1, Below.refl _ _⟩
  | some p =>
    have HA := Lib.hid (ha.alloc (.cells #[] 9))
    have h0 := (Fresh.of_own (enc := strE) (xs := []) (World.ownsRow_made (base := w.heap.size) (e := 9) (size := 1) w #[] 0 (Nat.le_refl _) (by decide) rfl) rfl rfl).here
    simp only [World.size_alloc] at h0
    have HF := Lib.hid h0
    clear h0
    have hnil : ∀ w, (binOp .eql 24 (.slice (some p) xs.length ca) (.slice none 0 0)).run Tryz.prog w = .ok (.bool false) w := fun w => Lib.run_eql_slice_nil w _ _ _ _ _ _ _ Tryz.underlying24
    go_enter Tryz.func59, Tryz.ntmps59
    go_wp2_with (first
      | (skip
         at_builtin
         refine wpList_append_fresh rfl (.tmp 5) (.tmp 6) 24 24 rfl (w.heap.size) (w.heap.size + 1) 9 i0 (.string ⟨#[]⟩) 1 16 Tryz.underlying24 hi hz0 hz1 hz2 rfl (by decide) (.slice (some ⟨w.heap.size, 0, none⟩) 0 0) ([]) rfl (HF.out) _ (xs) rfl (Src.ofSl (enc := strE) Tryz.underlying24 (fun _ => rfl) strOne HA.out _) (by (try simp) <;> (try omega)) (by (try simp) <;> (try omega)) ?_
         intro a1 c1 w1 L1 hL1 hf1 hm1
         skip))
    go_ret
    obtain rfl : L1 = xs := by simpa using hL1.out
    exact ⟨_, rfl, hf1.1, ((Below.refl w.heap.size w).alloc (Nat.le_refl _) (.cells #[] 9)).trans (hm1.below (by omega) (by simp))⟩
end
section
open Go.RowKit
def resRow (s : Scr) (w y : Nat) : List Cl := if y < s.h then (rowC s y).take w ++ blanksL (w - s.w) else blanksL w
def resC (s : Scr) (w h : Nat) : List Cl := (List.range h).flatMap (resRow s w)
def resS (s : Scr) (w h : Nat) : Scr := ⟨w, h, min s.x w, min s.y (h - 1), s.look, 0, h - 1, min s.sx w, min s.sy (h - 1), s.title, resC s w h, s.hist⟩
theorem flat_len {α : Type} (f : Nat → List α) (w : Nat) (hf : ∀ y, (f y).length = w) : ∀ h, ((List.range h).flatMap f).length = h * w
  | 0 => by simp
  | h + 1 => by
    rw [List.range_succ, List.flatMap_append, List.length_append, flat_len f w hf h, Nat.succ_mul]
    simp [hf]
theorem flat_row {α : Type} (f : Nat → List α) (w : Nat) (hf : ∀ y, (f y).length = w) (y : Nat) : ∀ h, y < h → (((List.range h).flatMap f).drop (y * w)).take w = f y
  | 0, h => absurd h (Nat.not_lt_zero _)
  | h + 1, hy => by
    rw [List.range_succ, List.flatMap_append]
    have hl := flat_len f w hf h
    rcases Nat.lt_or_ge y h with h1 | h1
    · have h2 : (y + 1) * w ≤ h * w := Nat.mul_le_mul_right _ h1
      rw [Nat.succ_mul] at h2
      rw [List.drop_append_of_le_length (by omega), List.take_append_of_le_length (by rw [List.length_drop]; omega)]
      exact flat_row f w hf y h h1
    · obtain rfl : y = h := by omega
      rw [List.drop_left' hl]
      simp only [List.flatMap_cons, List.flatMap_nil, List.append_nil]
      exact List.take_of_length_le (by rw [hf]; exact Nat.le_refl _)
section
variable {s : Scr} {w h y : Nat}
theorem rowC_len (ok : ScrOK s) (hy : y < s.h) : (rowC s y).length = s.w := by
  have h1 : (y + 1) * s.w ≤ s.h * s.w := Nat.mul_le_mul_right _ hy
  rw [Nat.succ_mul] at h1
  rw [rowC, List.length_take, List.length_drop, ok.cn, Nat.mul_comm s.w s.h]
  omega
theorem resRow_len (ok : ScrOK s) (y : Nat) : (resRow s w y).length = w := by
  unfold resRow
  split
  · next hy =>
    rw [List.length_append, List.length_take, rowC_len ok hy, blanksL, List.length_replicate]
    omega
  · simp [blanksL]
theorem resC_len (ok : ScrOK s) : (resC s w h).length = h * w := flat_len _ _ (resRow_len ok) h
theorem resRow_mem {c : Cl} (hc : c ∈ resRow s w y) : c ∈ s.cells ∨ c = blank := by
  unfold resRow at hc
  split at hc
  · rcases List.mem_append.1 hc with h1 | h1
    · exact .inl (List.mem_of_mem_drop (List.mem_of_mem_take (List.mem_of_mem_take h1)))
    · exact .inr (List.mem_replicate.1 h1).2
  · exact .inr (List.mem_replicate.1 hc).2
theorem resS_ok (ok : ScrOK s) (w1 : 2 ≤ w) (w2 : w ≤ 24) (h1 : 2 ≤ h) (h2 : h ≤ 10) : ScrOK (resS s w h) := by
  refine ⟨w1, w2, h1, h2, ?_, ?_, ok.lk, ?_, ?_, ?_, ?_, ok.ti, ?_, ?_, ok.hn, ok.hs⟩
  · show min s.x w ≤ w; omega
  · show min s.y (h - 1) < h; omega
  · show 0 < h - 1; omega
  · show h - 1 < h; omega
  · show min s.sx w ≤ w; omega
  · show min s.sy (h - 1) < h; omega
  · show (resC s w h).length = w * h
    rw [resC_len ok, Nat.mul_comm]
  · intro c hc
    obtain ⟨y, _, hy⟩ := List.mem_flatMap.1 hc
    rcases resRow_mem hy with h3 | h3
    · exact ok.cs c h3
    · rw [h3]
      exact celOK_blank
theorem rowC_res (ok : ScrOK s) (hy : y < h) : rowC (resS s w h) y = resRow s w y := flat_row _ w (resRow_len ok) y h hy
theorem trimC_blanks (l : List Cl) : ∀ n, trimC (l ++ blanksL n) = trimC l
  | 0 => by simp [blanksL]
  | n + 1 => by
    have e : l ++ blanksL (n + 1) = (l ++ blanksL n) ++ [blank] := by
      rw [blanksL, List.replicate_succ', ← List.append_assoc]
      rfl
    rw [e, trimC_snoc, if_pos (show blank.1 = 32 from rfl), trimC_blanks l n]
theorem rowT_res (ok : ScrOK s) (hw : s.w ≤ w) (hh : s.h ≤ h) (hy : y < s.h) : rowT (resS s w h) y = rowT s y := by
  unfold rowT
  rw [rowC_res ok (by omega), resRow, if_pos hy, List.take_of_length_le (by rw [rowC_len ok hy]; exact hw)]
  unfold rowL
  rw [trimC_blanks]
theorem rowC_back (ok : ScrOK s) (w1 : 2 ≤ w) (w2 : w ≤ 24) (h1 : 2 ≤ h) (h2 : h ≤ 10) (hw : s.w ≤ w) (hh : s.h ≤ h) (hy : y < s.h) : rowC (resS (resS s w h) s.w s.h) y = rowC s y := by
  have ok2 := resS_ok ok w1 w2 h1 h2
  rw [rowC_res ok2 hy, resRow, if_pos (by show y < h; omega), rowC_res ok (by omega), resRow, if_pos hy]
  show ((rowC s y).take w ++ blanksL (w - s.w)).take s.w ++ blanksL (s.w - w) = _
  rw [show s.w - w = 0 by omega, List.take_append_of_le_length (by rw [List.length_take, rowC_len ok hy]; omega), List.take_take, List.take_of_length_le (by rw [rowC_len ok hy]; omega)]
  simp [blanksL]
def resK (s : Scr) (w h k : Nat) : List Cl := (List.range k).flatMap (resRow s w) ++ blanksL ((h - k) * w)
theorem resK_zero : resK s w h 0 = blanksL (h * w) := by simp [resK]
theorem resK_len (ok : ScrOK s) {k : Nat} (hk : k ≤ h) : (resK s w h k).length = h * w := by
  rw [resK, List.length_append, flat_len _ _ (resRow_len ok), blanksL, List.length_replicate, ← Nat.add_mul]
  congr 1
  omega
theorem blanks_add (a b : Nat) : blanksL (a + b) = blanksL a ++ blanksL b := by simp [blanksL, List.replicate_append_replicate]
theorem resK_split {k : Nat} (hk : k < h) : resK s w h k = (List.range k).flatMap (resRow s w) ++ (blanksL w ++ blanksL ((h - (k + 1)) * w)) := by
  rw [resK, ← blanks_add, show (h - k) * w = w + (h - (k + 1)) * w by rw [show h - k = (h - (k + 1)) + 1 by omega, Nat.succ_mul, Nat.add_comm]]
theorem resK_next {k : Nat} (hk : k < h) : resK s w h (k + 1) = (List.range k).flatMap (resRow s w) ++ (resRow s w k ++ blanksL ((h - (k + 1)) * w)) := by
  rw [resK, List.range_succ, List.flatMap_append, List.append_assoc]
  simp
theorem resK_copy (ok : ScrOK s) {k : Nat} (hk : k < h) (hs : k < s.h) : splice (resK s w h k) (k * w) ((rowC s k).take w) = resK s w h (k + 1) := by
  have hl := flat_len _ _ (resRow_len (w := w) ok) k
  rw [resK_split hk, resK_next hk, resRow, if_pos hs]
  unfold splice
  have e1 : ((rowC s k).take w).length = min w s.w := by rw [List.length_take, rowC_len ok hs]
  rw [List.take_left' hl, e1, ← List.drop_drop, List.drop_left' hl]
  have e2 : (blanksL w ++ blanksL ((h - (k + 1)) * w)).drop (min w s.w) = blanksL (w - s.w) ++ blanksL ((h - (k + 1)) * w) := by
    rw [List.drop_append_of_le_length (by simp [blanksL]; omega)]
    congr 1
    simp only [blanksL, List.drop_replicate]
    congr 1
    omega
  rw [e2]
  simp [List.append_assoc]
def resX (s : Scr) (w h k x : Nat) : List Cl := (List.range k).flatMap (resRow s w) ++ ((rowC s k).take x ++ (blanksL (w - x) ++ blanksL ((h - (k + 1)) * w)))
theorem resX_zero {k : Nat} (hk : k < h) : resX s w h k 0 = resK s w h k := by rw [resK_split hk]; simp [resX]
theorem resX_last (ok : ScrOK s) {k : Nat} (hk : k < h) (hs : k < s.h) : resX s w h k (min w s.w) = resK s w h (k + 1) := by
  rw [resK_next hk, resRow, if_pos hs, resX, show w - min w s.w = w - s.w by omega]
  have : (rowC s k).take (min w s.w) = (rowC s k).take w := by
    rcases Nat.le_total w s.w with h1 | h1
    · rw [Nat.min_eq_left h1]
    · rw [Nat.min_eq_right h1, List.take_of_length_le (by rw [rowC_len ok hs]; exact Nat.le_refl _), List.take_of_length_le (by rw [rowC_len ok hs]; exact h1)]
  rw [this, List.append_assoc]
theorem resX_len (ok : ScrOK s) {k x : Nat} (hk : k < h) (hs : k < s.h) (hx : x ≤ min w s.w) : (resX s w h k x).length = h * w := by
  have hl := flat_len _ _ (resRow_len (w := w) ok) k
  have h1 := resK_len (w := w) ok (Nat.le_of_lt hk)
  rw [resK_split hk] at h1
  simp only [resX, blanksL, List.length_append, List.length_replicate, List.length_take, rowC_len ok hs] at h1 ⊢
  omega
theorem resX_next (ok : ScrOK s) {k x : Nat} (hk : k < h) (hs : k < s.h) (hx : x < w) (hx2 : x < s.w) (c : Cl) (hc : (rowC s k)[x]'(by rw [rowC_len ok hs]; exact hx2) = c) : (resX s w h k x).set (k * w + x) c = resX s w h k (x + 1) := by
  have hl := flat_len _ _ (resRow_len (w := w) ok) k
  have hrl := rowC_len ok hs
  unfold resX
  rw [List.set_append_right _ _ (by omega), hl, show k * w + x - k * w = x by omega, List.set_append_right _ _ (by rw [List.length_take]; omega), List.length_take, hrl, show x - min x s.w = 0 by omega]
  obtain ⟨m, hm⟩ : ∃ m, w - x = m + 1 := ⟨w - x - 1, by omega⟩
  rw [hm, show w - (x + 1) = m by omega, show blanksL (m + 1) = blank :: blanksL m from List.replicate_succ, List.cons_append, List.set_cons_zero, List.take_succ_eq_append_getElem (by omega), hc]
  simp
theorem resK_done {k : Nat} (hk : k = min h s.h) : resK s w h k = resC s w h := by
  unfold resC
  rcases Nat.le_total h s.h with h1 | h1
  · rw [Nat.min_eq_left h1] at hk
    subst hk
    simp [resK, blanksL]
  · rw [Nat.min_eq_right h1] at hk
    subst hk
    have : ∀ m, (List.range (s.h + m)).flatMap (resRow s w) = (List.range s.h).flatMap (resRow s w) ++ blanksL (m * w) := by
      intro m
      induction m with
      | zero => simp [blanksL]
      | succ m ih =>
        rw [← Nat.add_assoc, List.range_succ, List.flatMap_append, ih, Nat.succ_mul, blanks_add, List.append_assoc]
        congr 2
        simp [resRow, show ¬ (s.h + m < s.h) by omega]
    have e := this (h - s.h)
    rw [show s.h + (h - s.h) = h by omega] at e
    rw [e, resK]
end
end
end Go.Proofs.YtjmpgeffkdjpdaaGreatDoor
