/- spec.l07Records: the records from one state to another. No conditions but sizes. -/
import Derived.Test.YtmdjcoeijlnloaaRec
import Derived.Test.YtmdjcoeijlnloaaRd2
import Derived.Deep.RegionHeldLaw
namespace Go.Proofs.Ytmdjcoeijlnloaa
set_option linter.unusedVariables false
set_option linter.unusedSimpArgs false
open Go.RowKit
set_option maxRecDepth 100000 in
set_option maxHeartbeats 16000000 in
theorem l07Records_c (a b : Option Addr) (ca cb : Nat) (t v t' v' : Int) (xs ys : List Ent) (w : World) (ha : Sl entE 2 w a xs) (hb : Sl entE 2 w b ys) (hx : xs.length ≤ 60) (hy : ys.length ≤ 60)
    (ht0 : 0 ≤ t') (ht1 : t' ≤ 1000) (hv0 : -1 ≤ v') (hv1 : v' ≤ 4) (hys : ∀ e ∈ ys, 1 ≤ e.1 ∧ e.1 ≤ 1000 ∧ e.2.size ≤ 400) :
    Calls Try.prog 61 #[.agg #[.int .i64 t, .int .i64 v, .slice a xs.length ca], .agg #[.int .i64 t', .int .i64 v', .slice b ys.length cb]] w (TextsR (recsL t v xs t' v' ys) w) := by
  obtain ⟨i0, hi, hz0, hz1, hz2⟩ := info_parts Try.infoString
  have HYS := Lib.hid hys
  clear hys
  go_enter Try.func61, Try.ntmps61
  go_upto_region 2 with fail
  go_cut [20] (fun s wx => s = .bool (chg t v t' v') ∧ wx = ((w.alloc (.cells #[.int .i64 t, .int .i64 v, .slice a xs.length ca] 31)).alloc (.cells #[.int .i64 t', .int .i64 v', .slice b ys.length cb] 31)).alloc (.cells #[] 9))
  case first =>
    by_cases h1 : t = t'
    · have g1 : (t != t') = false := by simpa using h1
      have H1 := Lib.hid h1
      clear h1
      by_cases h2 : v = v'
      · have g2 : (v != v') = false := by simpa using h2
        have H2 := Lib.hid h2
        clear h2
        go_wp2_with fail
        go_meet
        exact ⟨by simp [chg, g1, g2], rfl⟩
      · have g2 : (v != v') = true := by simpa using h2
        go_wp2_with fail
        go_meet
        exact ⟨by simp [chg, g1, g2], rfl⟩
    · have g1 : (t != t') = true := by simpa using h1
      go_wp2_with fail
      go_meet
      exact ⟨by simp [chg, g1], rfl⟩
  case rest =>
    obtain ⟨rfl, rfl⟩ := hcut
    have k0 : ((w.alloc (.cells #[.int .i64 t, .int .i64 v, .slice a xs.length ca] 31)).alloc (.cells #[.int .i64 t', .int .i64 v', .slice b ys.length cb] 31)).cell? ⟨w.heap.size, 0, none⟩ = some (.int .i64 t) := by simp [go_sem]
    have k1 : ((w.alloc (.cells #[.int .i64 t, .int .i64 v, .slice a xs.length ca] 31)).alloc (.cells #[.int .i64 t', .int .i64 v', .slice b ys.length cb] 31)).cell? ⟨w.heap.size, 1, none⟩ = some (.int .i64 v) := by simp [go_sem]
    have k2 : ((w.alloc (.cells #[.int .i64 t, .int .i64 v, .slice a xs.length ca] 31)).alloc (.cells #[.int .i64 t', .int .i64 v', .slice b ys.length cb] 31)).cell? ⟨w.heap.size, 2, none⟩ = some (.slice a xs.length ca) := by simp [go_sem]
    have k3 : ((w.alloc (.cells #[.int .i64 t, .int .i64 v, .slice a xs.length ca] 31)).alloc (.cells #[.int .i64 t', .int .i64 v', .slice b ys.length cb] 31)).cell? ⟨w.heap.size + 1, 0, none⟩ = some (.int .i64 t') := by simp [go_sem]
    have k4 : ((w.alloc (.cells #[.int .i64 t, .int .i64 v, .slice a xs.length ca] 31)).alloc (.cells #[.int .i64 t', .int .i64 v', .slice b ys.length cb] 31)).cell? ⟨w.heap.size + 1, 1, none⟩ = some (.int .i64 v') := by simp [go_sem]
    have k5 : ((w.alloc (.cells #[.int .i64 t, .int .i64 v, .slice a xs.length ca] 31)).alloc (.cells #[.int .i64 t', .int .i64 v', .slice b ys.length cb] 31)).cell? ⟨w.heap.size + 1, 2, none⟩ = some (.slice b ys.length cb) := by simp [go_sem]
    have HW2 : Hid (Below w.heap.size w ((w.alloc (.cells #[.int .i64 t, .int .i64 v, .slice a xs.length ca] 31)).alloc (.cells #[.int .i64 t', .int .i64 v', .slice b ys.length cb] 31))) := (by repeat (first | exact Below.refl _ _ | (refine Below.alloc ?_ (by (try simp) <;> (try omega)) _) | (refine Below.setCell ?_ (by (try simp) <;> (try omega)) _) | (refine Below.drew ?_) | (refine Below.trans ?_ (Below.mono (by assumption) (by (try simp) <;> (try omega))))))
    have hs2 : ((w.alloc (.cells #[.int .i64 t, .int .i64 v, .slice a xs.length ca] 31)).alloc (.cells #[.int .i64 t', .int .i64 v', .slice b ys.length cb] 31)).heap.size = w.heap.size + 2 := by simp
    have hss : w.heap.size + 1 + 1 = ((w.alloc (.cells #[.int .i64 t, .int .i64 v, .slice a xs.length ca] 31)).alloc (.cells #[.int .i64 t', .int .i64 v', .slice b ys.length cb] 31)).heap.size := by simp
    rw [hss]
    generalize (w.alloc (.cells #[.int .i64 t, .int .i64 v, .slice a xs.length ca] 31)).alloc (.cells #[.int .i64 t', .int .i64 v', .slice b ys.length cb] 31) = W2 at *
    have hs3 : w.heap.size + 2 ≤ W2.heap.size := by omega
    clear hs2 hss
    have HBX : Hid (Below (w.heap.size + 2) W2 (W2.alloc (.cells #[] 9))) := (Below.refl _ _).alloc hs3 _
    have HFX := Lib.hid (fresh_made W2 (w.heap.size + 2) hs3)
    have hsx : W2.heap.size + 1 = (W2.alloc (.cells #[] 9)).heap.size := by simp
    have hsx1 : W2.heap.size + 1 ≤ (W2.alloc (.cells #[] 9)).heap.size := by omega
    have p3 : (W2.alloc (.cells #[] 9)).cell? ⟨w.heap.size + 1, 0, none⟩ = some (.int .i64 t') := by rw [World.cell?_alloc_lt _ _ _ (by show w.heap.size + 1 < _; omega)]; exact k3
    have p4 : (W2.alloc (.cells #[] 9)).cell? ⟨w.heap.size + 1, 1, none⟩ = some (.int .i64 v') := by rw [World.cell?_alloc_lt _ _ _ (by show w.heap.size + 1 < _; omega)]; exact k4
    generalize hW1 : W2.alloc (.cells #[] 9) = w1 at *
    clear hW1 hsx
    go_upto_if 20 with fail
    go_cut [5] (fun s wx => ∃ (av : Option Addr) (cv : Nat) (L : List ByteArray), s = .slice av L.length cv ∧ L.length ≤ 1 ∧ Hid (L = rec1 t v t' v') ∧ Fresh strE 9 1 (w.heap.size + 2) (.slice av L.length cv) L wx ∧ Below (w.heap.size + 2) W2 wx)
    case first =>
      cases hch : chg t v t' v'
      · go_wp2_with fail
        go_meet
        exact ⟨some ⟨W2.heap.size, 0, none⟩, 0, [], rfl, by simp, by show _ = _; simp [rec1, hch], HFX.out, HBX.out⟩
      · have HCH := Lib.hid hch
        clear hch
        go_wp2_with fail
        refine (l02Numbers_c (some ⟨w1.heap.size, 0, none⟩) 2 [t', v'] _ (Sl.boxL (enc := intE) (fun _ => rfl) [t', v'] #[.int .i64 (t'), .int .i64 (v')] 3 rfl w1.heap.size rfl) (by simp) (by intro n hn; simp at hn; omega)).mono ?_
        rintro e w1a ⟨v1a, rfl, hf1a, hb1a⟩
        obtain ⟨a1a, c1a, rfl, hc1a, ho1a⟩ := id hf1a
        have hz1a := hb1a.size
        simp only [World.size_alloc] at hz1a
        have HB1a := Lib.hid hb1a
        have hcv1a := fun c => conv_sl (ca := c) (hf1a.here.sl fun _ => rfl)
        have hn1 : (strOf (numL [t', v'])).size ≤ 6 := by rw [strOf_size, numL_length]; simp
        clear hb1a ho1a hf1a
        go_wp2_with fail
        clear hcv1a
        refine (l02Fields_c (some ⟨w1a.heap.size, 0, none⟩) 2 [str1 116, strOf (numL [t', v'])] _ (Sl.boxL (enc := strE) (fun _ => rfl) [str1 116, strOf (numL [t', v'])] #[.string (str1 116), .string (strOf (numL [t', v']))] 9 rfl w1a.heap.size rfl) (by simp) (by intro s hs; simp at hs; rcases hs with rfl | rfl <;> first | decide | omega)).mono ?_
        rintro e w1b ⟨v1b, rfl, hf1b, hb1b⟩
        obtain ⟨a1b, c1b, rfl, hc1b, ho1b⟩ := id hf1b
        have hz1b := hb1b.size
        simp only [World.size_alloc] at hz1b
        have HB1b := Lib.hid hb1b
        have HF1 := Lib.hid (((HFX.out.here.alloc (.cells #[.int .i64 (t'), .int .i64 (v')] 3)).below HB1a.out).alloc (.cells #[.string (str1 116), .string (strOf (numL [t', v']))] 9) |>.below HB1b.out)
        have hcv1b := fun c => conv_sl (ca := c) (hf1b.here.sl fun _ => rfl)
        generalize hR1 : strOf (fldL [str1 116, strOf (numL [t', v'])]) = R1 at *
        have HR1 := Lib.hid hR1
        clear hb1b hR1 ho1b hf1b
        go_wp2_with (first
          | (skip
             at_builtin
             refine wpList_append_fresh rfl (.tmp 21) (.tmp 32) 26 26 rfl (w.heap.size + 2) (w1.heap.size) 9 i0 (.string ⟨#[]⟩) 1 16 Try.underlying26 hi hz0 hz1 hz2 rfl (by decide) (.slice (some ⟨W2.heap.size, 0, none⟩) 0 0) ([]) rfl (HF1.out.alloc _) _ ([R1]) rfl (Src.ofBox (enc := strE) (w := w1b) Try.underlying26 (fun _ => rfl) strOne R1 #[.string R1] 9 rfl w1b.heap.size rfl) (by (try simp) <;> (try omega)) (by (try simp) <;> (try omega)) ?_
             intro a1 c1 w1 L1 hL1 hf1 hm1
             skip))
        have HBB1 : Hid (Below (w.heap.size + 2) W2 w1) := ((((((HBX.out.alloc (by omega) (.cells #[.int .i64 (t'), .int .i64 (v')] 3)).trans (HB1a.out.mono (by simp; omega))).alloc (by omega) (.cells #[.string (str1 116), .string (strOf (numL [t', v']))] 9)).trans (HB1b.out.mono (by simp; omega))).alloc (by omega) (.cells #[.string R1] 9)).trans (hm1.below (Nat.le_refl _) (by simp; omega)))
        go_meet
        exact ⟨a1, c1, L1, rfl, by rw [hL1.out]; simp, by show _ = _; rw [hL1.out, rec1, HCH.out, ← HR1.out]; rfl, hf1.1, HBB1.out⟩
    case rest =>
      obtain ⟨av, cv, L, rfl, hLl, hL, hf, hbel⟩ := hcut
      have hzc := hbel.size
      have HBC := Lib.hid hbel
      have HFC := Lib.hid hf
      obtain ⟨w3, hw3⟩ : ∃ x, x = wc := ⟨_, rfl⟩
      subst hw3
      have qw3_0 : w3.cell? ⟨w.heap.size, 0, none⟩ = some (.int .i64 t) := by rw [hbel.cell (p := ⟨w.heap.size, 0, none⟩) (by show w.heap.size < _; omega)]; exact k0
      have qw3_1 : w3.cell? ⟨w.heap.size, 1, none⟩ = some (.int .i64 v) := by rw [hbel.cell (p := ⟨w.heap.size, 1, none⟩) (by show w.heap.size < _; omega)]; exact k1
      have qw3_2 : w3.cell? ⟨w.heap.size, 2, none⟩ = some (.slice a xs.length ca) := by rw [hbel.cell (p := ⟨w.heap.size, 2, none⟩) (by show w.heap.size < _; omega)]; exact k2
      have qw3_3 : w3.cell? ⟨w.heap.size + 1, 0, none⟩ = some (.int .i64 t') := by rw [hbel.cell (p := ⟨w.heap.size + 1, 0, none⟩) (by show w.heap.size + 1 < _; omega)]; exact k3
      have qw3_4 : w3.cell? ⟨w.heap.size + 1, 1, none⟩ = some (.int .i64 v') := by rw [hbel.cell (p := ⟨w.heap.size + 1, 1, none⟩) (by show w.heap.size + 1 < _; omega)]; exact k4
      have qw3_5 : w3.cell? ⟨w.heap.size + 1, 2, none⟩ = some (.slice b ys.length cb) := by rw [hbel.cell (p := ⟨w.heap.size + 1, 2, none⟩) (by show w.heap.size + 1 < _; omega)]; exact k5
      have HBW : Hid (Below w.heap.size w w3) := HW2.out.trans (hbel.mono (by omega))
      have HA := Lib.hid (ha.keep HBW.out)
      have HB := Lib.hid (hb.keep HBW.out)
      have K5 := Lib.hid k5
      clear hf hbel k0 k1 k2 k3 k4 k5 p3 p4 HBX HFX
      go_wp2_with fail
      refine (l07Common_c a b ca cb xs ys _ HA.out HB.out (by omega) (by omega)).mono ?_
      rintro e w5 ⟨rfl, hbd⟩
      have hze := hbd.size
      have HBE : Hid (Below (w.heap.size + 2) W2 w5) := HBC.out.trans (hbd.mono (by omega))
      have HBW2 : Hid (Below w.heap.size w w5) := HBW.out.trans (hbd.mono (by omega))
      have HF2 := Lib.hid (HFC.out.below hbd)
      have qw5_0 : w5.cell? ⟨w.heap.size, 0, none⟩ = some (.int .i64 t) := by rw [hbd.cell (p := ⟨w.heap.size, 0, none⟩) (by show w.heap.size < _; omega)]; exact qw3_0
      have qw5_1 : w5.cell? ⟨w.heap.size, 1, none⟩ = some (.int .i64 v) := by rw [hbd.cell (p := ⟨w.heap.size, 1, none⟩) (by show w.heap.size < _; omega)]; exact qw3_1
      have qw5_2 : w5.cell? ⟨w.heap.size, 2, none⟩ = some (.slice a xs.length ca) := by rw [hbd.cell (p := ⟨w.heap.size, 2, none⟩) (by show w.heap.size < _; omega)]; exact qw3_2
      have qw5_3 : w5.cell? ⟨w.heap.size + 1, 0, none⟩ = some (.int .i64 t') := by rw [hbd.cell (p := ⟨w.heap.size + 1, 0, none⟩) (by show w.heap.size + 1 < _; omega)]; exact qw3_3
      have qw5_4 : w5.cell? ⟨w.heap.size + 1, 1, none⟩ = some (.int .i64 v') := by rw [hbd.cell (p := ⟨w.heap.size + 1, 1, none⟩) (by show w.heap.size + 1 < _; omega)]; exact qw3_4
      have qw5_5 : w5.cell? ⟨w.heap.size + 1, 2, none⟩ = some (.slice b ys.length cb) := by rw [hbd.cell (p := ⟨w.heap.size + 1, 2, none⟩) (by show w.heap.size + 1 < _; omega)]; exact qw3_5
      have HCL := commonN_le xs ys
      have HCL2 := commonN_le2 xs ys
      have hR2 : Hid (rec2 xs ys = if commonN xs ys < xs.length then [recC (commonN xs ys)] else []) := rfl
      have hR3 : Hid (rec3 xs ys = (ys.drop (commonN xs ys)).map recE) := rfl
      have hRR : Hid (recsL t v xs t' v' ys = rec1 t v t' v' ++ rec2 xs ys ++ rec3 xs ys) := rfl
      clear qw3_0 qw3_1 qw3_2 qw3_3 qw3_4 qw3_5 hbd HBC HBW HFC HA HB
      have hrc : recC (commonN xs ys) = strOf (fldL [str1 99, strOf (numL [((commonN xs ys : Nat) : Int)])]) := rfl
      have HRC := Lib.hid hrc
      clear hrc
      generalize commonN xs ys = c at *
      go_upto_if 43 with fail
      go_cut [5] (fun s wx => ∃ (av : Option Addr) (cv : Nat) (L : List ByteArray), s = .slice av L.length cv ∧ L.length ≤ 2 ∧ Hid (L = rec1 t v t' v' ++ rec2 xs ys) ∧ Fresh strE 9 1 (w.heap.size + 2) (.slice av L.length cv) L wx ∧ Below (w.heap.size + 2) W2 wx)
      case first =>
        by_cases hc : c < xs.length
        · have HRE : Hid (rec2 xs ys = [recC c]) := by show _ = _; rw [hR2.out, if_pos hc]
          go_wp2_with fail
          refine (l02Numbers_c (some ⟨w5.heap.size, 0, none⟩) 1 [((c : Nat) : Int)] _ (Sl.boxL (enc := intE) (fun _ => rfl) [((c : Nat) : Int)] #[.int .i64 (((c : Nat) : Int))] 3 rfl w5.heap.size rfl) (by simp) (by intro n hn; simp at hn; omega)).mono ?_
          rintro e w2a ⟨v2a, rfl, hf2a, hb2a⟩
          obtain ⟨a2a, c2a, rfl, hc2a, ho2a⟩ := id hf2a
          have hz2a := hb2a.size
          simp only [World.size_alloc] at hz2a
          have HB2a := Lib.hid hb2a
          have hcv2a := fun c => conv_sl (ca := c) (hf2a.here.sl fun _ => rfl)
          have hn2 : (strOf (numL [((c : Nat) : Int)])).size ≤ 3 := by rw [strOf_size, numL_length]; simp
          clear hb2a ho2a hf2a
          go_wp2_with fail
          clear hcv2a
          refine (l02Fields_c (some ⟨w2a.heap.size, 0, none⟩) 2 [str1 99, strOf (numL [((c : Nat) : Int)])] _ (Sl.boxL (enc := strE) (fun _ => rfl) [str1 99, strOf (numL [((c : Nat) : Int)])] #[.string (str1 99), .string (strOf (numL [((c : Nat) : Int)]))] 9 rfl w2a.heap.size rfl) (by simp) (by intro s hs; simp at hs; rcases hs with rfl | rfl <;> first | decide | omega)).mono ?_
          rintro e w2b ⟨v2b, rfl, hf2b, hb2b⟩
          obtain ⟨a2b, c2b, rfl, hc2b, ho2b⟩ := id hf2b
          have hz2b := hb2b.size
          simp only [World.size_alloc] at hz2b
          have HB2b := Lib.hid hb2b
          have HF2 := Lib.hid (((HF2.out.here.alloc (.cells #[.int .i64 (((c : Nat) : Int))] 3)).below HB2a.out).alloc (.cells #[.string (str1 99), .string (strOf (numL [((c : Nat) : Int)]))] 9) |>.below HB2b.out)
          have hcv2b := fun c => conv_sl (ca := c) (hf2b.here.sl fun _ => rfl)
          generalize hR2 : strOf (fldL [str1 99, strOf (numL [((c : Nat) : Int)])]) = R2 at *
          have HR2 := Lib.hid hR2
          clear hb2b hR2 ho2b hf2b
          go_wp2_with (first
            | (skip
               at_builtin
               refine wpList_append_fresh rfl (.tmp 44) (.tmp 52) 26 26 rfl (w.heap.size + 2) (w5.heap.size) 9 i0 (.string ⟨#[]⟩) 1 16 Try.underlying26 hi hz0 hz1 hz2 rfl (by decide) (.slice av L.length cv) (L) rfl (HF2.out.alloc _) _ ([R2]) rfl (Src.ofBox (enc := strE) (w := w2b) Try.underlying26 (fun _ => rfl) strOne R2 #[.string R2] 9 rfl w2b.heap.size rfl) (by (try simp) <;> (try omega)) (by (try simp) <;> (try omega)) ?_
               intro a2 c2 w2 L2 hL2 hf2 hm2
               skip))
          have HBB2 : Hid (Below (w.heap.size + 2) W2 w2) := ((((((HBE.out.alloc (by omega) (.cells #[.int .i64 (((c : Nat) : Int))] 3)).trans (HB2a.out.mono (by simp; omega))).alloc (by omega) (.cells #[.string (str1 99), .string (strOf (numL [((c : Nat) : Int)]))] 9)).trans (HB2b.out.mono (by simp; omega))).alloc (by omega) (.cells #[.string R2] 9)).trans (hm2.below (Nat.le_refl _) (by simp; omega)))
          go_meet
          exact ⟨a2, c2, L2, rfl, by rw [hL2.out]; simp; omega, by show _ = _; rw [hL2.out, hL.out, HRE.out, HRC.out, ← HR2.out], hf2.1, HBB2.out⟩
        · have HRE : Hid (rec2 xs ys = []) := by show _ = _; rw [hR2.out, if_neg hc]
          go_wp2_with fail
          go_meet
          exact ⟨av, cv, L, rfl, by omega, by show _ = _; rw [HRE.out, List.append_nil]; exact hL.out, HF2.out, HBE.out⟩
      case rest =>
        obtain ⟨w6, hw6⟩ : ∃ x, x = wc := ⟨_, rfl⟩
        subst hw6
        obtain ⟨av2, cv2, M, rfl, hMl, hM, hfM, hbM⟩ := hcut
        have hz6 := hbM.size
        have HBM := Lib.hid hbM
        have HFM := Lib.hid hfM
        clear hbM hfM qw5_0 qw5_1 qw5_2 qw5_3 qw5_4 qw5_5
        go_wp2_with fail
        go_loopw [5, 7] (fun v i wr => ∃ (k : Nat) (av : Option Addr) (cv : Nat) (L : List ByteArray), k ≤ ys.length ∧ c ≤ k ∧ L.length ≤ k + 2 ∧ i = .int .i64 k ∧ v = .slice av L.length cv ∧ Hid (L = M ++ ((ys.take k).drop c).map recE) ∧ Fresh strE 9 1 (w.heap.size + 2) (.slice av L.length cv) L wr ∧ Below (w.heap.size + 2) W2 wr) (fun _ i _ => ys.length - (intOf i).toNat)
        case atStart => exact ⟨c, _, _, M, HCL2, Nat.le_refl _, by omega, rfl, rfl, by show _ = _; simp, HFM.out, HBM.out⟩
        case round =>
          obtain ⟨k, av, cv, L, hk, hck, hLk, rfl, rfl, hLe, hf, hbel⟩ := hrel
          have HF := Lib.hid hf.here
          have HBL := Lib.hid hbel
          have hzr := hbel.size
          have qr5 : wr.cell? ⟨w.heap.size + 1, 2, none⟩ = some (.slice b ys.length cb) := by rw [hbel.cell (p := ⟨w.heap.size + 1, 2, none⟩) (by show w.heap.size + 1 < _; omega)]; exact K5.out
          clear hf hbel
          by_cases hlt : k < ys.length
          · obtain ⟨b2, o2, rfl, hb2, _⟩ := hb.at hlt
            obtain ⟨b3, o3, he, hb3, hc1⟩ := (hb.keep (HW2.out.trans (HBL.out.mono (by omega)))).at hlt
            cases he
            have e0 := hc1 k hlt 0 (by omega)
            have e1 := hc1 k hlt 1 (by omega)
            simp only [entE, Nat.add_zero, List.getElem?_cons_zero, List.getElem?_cons_succ] at e0 e1
            obtain ⟨hr1, hr2, hr3⟩ := HYS.out ys[k] (List.getElem_mem _)
            have HTK : Hid (((ys.take (k + 1)).drop c).map recE = ((ys.take k).drop c).map recE ++ [recE ys[k]]) := by
              show _ = _
              rw [List.take_succ_eq_append_getElem hlt, List.drop_append_of_le_length (by simp; omega), List.map_append]
              rfl
            have hi0 : (0 : Int) ≤ (k : Int) := by omega
            have hi1 : (k : Int) < (ys.length : Int) := by omega
            generalize ys[k] = z at *
            clear hc1
            go_wp2_with fail
            go_region_held_law (fun w' => w'.cell? ⟨w.heap.size + 1, 2, none⟩ = some (.slice (some ⟨b2, o2, none⟩) ys.length cb) ∧ w'.cell? ⟨b2, o2 + k * 2, none⟩ = some (.int .i64 z.1) ∧ w'.cell? ⟨b2, o2 + k * 2 + 1, none⟩ = some (.string z.2))
              (first | go_keep | (repeat' apply And.intro) <;> assumption)
              (first
                | (go_at_call 120
                   refine (l02Numbers_c (some ⟨wr.heap.size, 0, none⟩) 1 [z.1] _ (Sl.boxL (enc := intE) (w := wr.drew) (fun _ => rfl) [z.1] #[.int .i64 z.1] 3 rfl wr.heap.size (by simp)) (by simp) (by intro n hn; simp at hn; omega)).mono ?_
                   rintro e wa ⟨va, rfl, hfa, hba⟩
                   obtain ⟨aa, cca, rfl, hca, hoa⟩ := id hfa
                   have hza := hba.size
                   simp at hza
                   have hcva := fun c => conv_sl (ca := c) (hfa.here.sl fun _ => rfl)
                   have g0 : wa.cell? ⟨w.heap.size + 1, 2, none⟩ = some (.slice (some ⟨b2, o2, none⟩) ys.length cb) := by
                     rw [hba.cell (p := ⟨w.heap.size + 1, 2, none⟩) (by show w.heap.size + 1 < _; simp; omega), World.cell?_alloc_lt _ _ _ (by show w.heap.size + 1 < _; simp; omega)]
                     simpa using qr5
                   have g1 : wa.cell? ⟨b2, o2 + k * 2, none⟩ = some (.int .i64 z.1) := by
                     rw [hba.cell (p := ⟨b2, o2 + k * 2, none⟩) (by show b2 < _; simp; omega), World.cell?_alloc_lt _ _ _ (by show b2 < _; simp; omega)]
                     simpa using e0
                   have g2 : wa.cell? ⟨b2, o2 + k * 2 + 1, none⟩ = some (.string z.2) := by
                     rw [hba.cell (p := ⟨b2, o2 + k * 2 + 1, none⟩) (by show b2 < _; simp; omega), World.cell?_alloc_lt _ _ _ (by show b2 < _; simp; omega)]
                     simpa using e1
                   have hna : (strOf (numL [z.1])).size ≤ 3 := by rw [strOf_size, numL_length]; simp
                   have HBa := Lib.hid hba
                   clear hba hfa hoa)
                | (go_at_call 119
                   refine (l02Fields_c (some ⟨wa.heap.size, 0, none⟩) 3 [str1 101, strOf (numL [z.1]), z.2] _ (Sl.boxL (enc := strE) (w := wa) (fun _ => rfl) [str1 101, strOf (numL [z.1]), z.2] #[.string (str1 101), .string (strOf (numL [z.1])), .string z.2] 9 rfl wa.heap.size rfl) (by simp) (by intro s hs; simp at hs; rcases hs with rfl | rfl | rfl <;> first | decide | omega)).mono ?_
                   rintro e wb ⟨vb, rfl, hfb, hbb⟩
                   obtain ⟨ab, ccb, rfl, hcb', hob⟩ := id hfb
                   have hzb := hbb.size
                   simp at hzb
                   have hcvb := fun c => conv_sl (ca := c) (hfb.here.sl fun _ => rfl)
                   rw [show strOf (fldL [str1 101, strOf (numL [z.1]), z.2]) = recE z from rfl] at hcvb
                   have g3 : wb.cell? ⟨w.heap.size + 1, 2, none⟩ = some (.slice (some ⟨b2, o2, none⟩) ys.length cb) := by
                     rw [hbb.cell (p := ⟨w.heap.size + 1, 2, none⟩) (by show w.heap.size + 1 < _; simp; omega), World.cell?_alloc_lt _ _ _ (by show w.heap.size + 1 < _; omega)]
                     exact g0
                   have g4 : wb.cell? ⟨b2, o2 + k * 2, none⟩ = some (.int .i64 z.1) := by
                     rw [hbb.cell (p := ⟨b2, o2 + k * 2, none⟩) (by show b2 < _; simp; omega), World.cell?_alloc_lt _ _ _ (by show b2 < _; omega)]
                     exact g1
                   have g5 : wb.cell? ⟨b2, o2 + k * 2 + 1, none⟩ = some (.string z.2) := by
                     rw [hbb.cell (p := ⟨b2, o2 + k * 2 + 1, none⟩) (by show b2 < _; simp; omega), World.cell?_alloc_lt _ _ _ (by show b2 < _; omega)]
                     exact g2
                   have HBb := Lib.hid hbb
                   have HFb := Lib.hid ((((HF.out.drew).alloc (.cells #[.int .i64 z.1] 3)).below HBa.out |>.alloc (.cells #[.string (str1 101), .string (strOf (numL [z.1])), .string z.2] 9)).below hbb)
                   clear hbb hfb hob)
                | (have tok1 := HFb
                   refine step_append_fresh (by rfl) (.tmp 62) (.tmp 81) 26 26 (by rfl) (w.heap.size + 2) wr.heap.size 9 i0 (.string ⟨#[]⟩) 1 16 Try.underlying26 hi hz0 hz1 hz2 rfl (by decide) (.slice av L.length cv) L (by rfl) (tok1.out.alloc _) _ [recE z] (by rfl) (Src.ofBox (enc := strE) (w := wb) Try.underlying26 (fun _ => rfl) strOne (recE z) #[.string (recE z)] 9 rfl wb.heap.size rfl) (by simp; omega) (by simp; omega) ?_
                   intro a7 c7 w7 L7 hL7 hf7 hm7
                   have hy7 := hm7.size
                   simp at hy7
                   have g6 : w7.cell? ⟨w.heap.size + 1, 2, none⟩ = some (.slice (some ⟨b2, o2, none⟩) ys.length cb) := by
                     rw [hm7.cell (p := ⟨w.heap.size + 1, 2, none⟩) (by show w.heap.size + 1 < _; simp; omega) (.inl (by show w.heap.size + 1 < _; omega)), World.cell?_alloc_lt _ _ _ (by show w.heap.size + 1 < _; omega)]
                     exact g3
                   have g7 : w7.cell? ⟨b2, o2 + k * 2, none⟩ = some (.int .i64 z.1) := by
                     rw [hm7.cell (p := ⟨b2, o2 + k * 2, none⟩) (by show b2 < _; simp; omega) (.inl (by show b2 < _; omega)), World.cell?_alloc_lt _ _ _ (by show b2 < _; omega)]
                     exact g4
                   have g8 : w7.cell? ⟨b2, o2 + k * 2 + 1, none⟩ = some (.string z.2) := by
                     rw [hm7.cell (p := ⟨b2, o2 + k * 2 + 1, none⟩) (by show b2 < _; simp; omega) (.inl (by show b2 < _; omega)), World.cell?_alloc_lt _ _ _ (by show b2 < _; omega)]
                     exact g5))
            go_wp2_with fail
            go_roundw
            case rel =>
              have hx : Below wr.heap.size wr wb := (((((Below.refl wr.heap.size wr).drew).alloc (by simp) (.cells #[.int .i64 z.1] 3)).trans (HBa.out.mono (by simp <;> omega))) |>.alloc (by omega) (.cells #[.string (str1 101), .string (strOf (numL [z.1])), .string z.2] 9)).trans (HBb.out.mono (by simp; omega))
              have hx7 : Below (w.heap.size + 2) wr w7 := ((hx.mono (by omega)).alloc (by omega) (.cells #[.string (recE z)] 9)).trans (hm7.below (Nat.le_refl _) (by simp; omega))
              refine ⟨k + 1, a7, c7, L7, by omega, by omega, by rw [hL7.out]; simp; omega, by go_num, rfl, ?_, hf7.1, HBL.out.trans hx7⟩
              show _ = _
              rw [hL7.out, hLe.out, HTK.out, List.append_assoc]
            case measure => simp [intOf]; omega
          · obtain rfl : k = ys.length := by omega
            have e1 : L = recsL t v xs t' v' ys := by rw [hLe.out, List.take_length, hM.out, hRR.out, hR3.out]
            have E1 := Lib.hid e1
            clear e1
            go_wp2_with fail
            go_ret
            rw [← E1.out]
            exact ⟨_, _, rfl, HF.out.1.mono (by omega), HW2.out.trans (HBL.out.mono (by omega))⟩
end Go.Proofs.Ytmdjcoeijlnloaa
