/- spec.l02Frames. No conditions but sizes. -/
import Derived.Test.YtmdjcoeijlnloaaFrs
namespace Go.Proofs.Ytmdjcoeijlnloaa
set_option linter.unusedVariables false
set_option linter.unusedSimpArgs false
open Go.RowKit
set_option maxRecDepth 100000 in
set_option maxHeartbeats 8000000 in
theorem l02Frames_c (l0 : List UInt8) (w : World) (hs : l0.length ≤ 1048576) :
    Calls Try.prog 136 #[.string (strOf l0)] w (FrsR (frs l0) w) := by
  obtain ⟨i0, hi, hz0, hz1, hz2⟩ := info_parts Try.infoString
  have hex := fun i k => extract_mid l0 i k
  have HEX := Lib.hid hex
  have hsz : (strOf l0).size = l0.length := rfl
  have hsz1 : (strOf l0).size ≤ l0.length := Nat.le_of_eq hsz
  have hsz2 : l0.length ≤ (strOf l0).size := Nat.le_of_eq hsz.symm
  obtain ⟨X, hX⟩ : ∃ X, X = frs l0 := ⟨_, rfl⟩
  rw [← hX]
  have HX0 : Hid (frJ [] 0 (frF l0.length (l0.drop 0)) = X) := by
    show _ = _
    rw [hX]
    simp [frJ, frs]
  clear hX hex hsz
  generalize strOf l0 = S at *
  go_enter Try.func136, Try.ntmps136
  go_wp2_with fail
  go_loopw [5, 6] (fun v p wr => ∃ (f A : Nat) (av : Option Addr) (cv : Nat) (L : List ByteArray), A ≤ l0.length ∧ l0.length ≤ A + f ∧ L.length ≤ A ∧ p = .int .i64 A ∧ v = .slice av L.length cv ∧ Hid (frJ L A (frF f (l0.drop A)) = X) ∧ Fresh strE 9 1 w.heap.size (.slice av L.length cv) L wr ∧ Below w.heap.size w wr) (fun _ p _ => l0.length - (intOf p).toNat)
  case atStart => exact ⟨l0.length, 0, _, _, [], by omega, by omega, by simp, rfl, rfl, HX0, fresh_made w _ (Nat.le_refl _), (by repeat (first | exact Below.refl _ _ | (refine Below.alloc ?_ (by (try simp) <;> (try omega)) _) | (refine Below.setCell ?_ (by (try simp) <;> (try omega)) _) | (refine Below.drew ?_) | (refine Below.trans ?_ (Below.mono (by assumption) (by (try simp) <;> (try omega))))))⟩
  case round =>
    obtain ⟨f, A, av, cv, L, hA, hAf, hLA, rfl, rfl, hT, hf, hbel⟩ := hrel
    have HF := Lib.hid hf.here
    have HBW := Lib.hid hbel
    have hz := hbel.size
    clear hf hbel
    by_cases hAl : A < l0.length
    · obtain ⟨m, rfl⟩ : ∃ m, f = m + 1 := ⟨f - 1, by omega⟩
      have hAs : A < S.size := by omega
      have hAs2 : A ≤ S.size := by omega
      have hdl : (l0.drop A).length = l0.length - A := by simp
      have hd2 : ∀ k, (l0.drop A).drop k = l0.drop (A + k) := fun k => by rw [List.drop_drop]
      obtain ⟨l, hl⟩ : ∃ l, l = l0.drop A := ⟨_, rfl⟩
      rw [← hl] at hT hdl
      have hx0 : S.extract A (A + 3) = strOf (l.take 3) := by rw [HEX.out, hl]
      have hx3 : S.extract (A + 3) (A + 7) = strOf ((l.drop 3).take 4) := by
        have := HEX.out (A + 3) 4
        rw [hl, hd2, ← this]
      have hx7 : ∀ B, S.extract (A + 7) (A + 7 + B) = strOf ((l.drop 7).take B) := fun B => by rw [HEX.out, hl, hd2]
      have H0 := Lib.hid hx0
      have H3 := Lib.hid hx3
      have H7 := Lib.hid hx7
      have HDL := Lib.hid hdl
      have HL := Lib.hid hl
      clear hx0 hx3 hx7 hdl hd2 hl
      by_cases g1 : l0.length < A + 7
      · have g1' : S.size < A + 7 := by omega
        have g1'' : (S.size : Int) - (A : Int) < 7 := by omega
        have hr := frF_short (n := m) (l := l) (by rw [HDL.out]; omega) (by rw [HDL.out]; omega)
        have HR := Lib.hid (show frJ L A ([], 0, 14) = X by rw [← hr]; exact hT.out)
        clear hr
        go_wp2_with fail
        go_ret3
        exact FrsR.of HR.out HF.out.1 HBW.out
      have g1' : A + 7 ≤ S.size := by omega
      have g1'' : 7 ≤ (S.size : Int) - (A : Int) := by omega
      have g3' : A + 3 ≤ S.size := by omega
      have hxs : (S.extract A (A + 3)).size ≤ 5 := by rw [H0.out, strOf_size]; simp; omega
      have hxs4 : (S.extract (A + 3) (A + 7)).size ≤ 5 := by rw [H3.out, strOf_size]; simp; omega
      have HLn := Lib.hid (show 7 ≤ l.length by rw [HDL.out]; omega)
      have HE1 := fun h => Lib.hid (frF_long (n := m) (l := l) HLn.out h)
      have HE2 := fun h => Lib.hid (frF_cut (n := m) (l := l) HLn.out h)
      have HE3 := fun h => Lib.hid (frF_sum (n := m) (l := l) HLn.out h)
      have HE4 := fun h => Lib.hid (frF_ok (n := m) (l := l) HLn.out h)
      have HBN : Hid (∀ w, Calls Try.prog 165 #[.string (S.extract A (A + 3))] w fun e w' => e = .returned (.int .i64 (bn (l.take 3))) ∧ w = w') := Lib.hid (fun w => by
        have := l02Of_c (S.extract A (A + 3)) w hxs
        rw [H0.out, strOf_toList] at this
        rw [H0.out]
        exact this)
      have HAX : Hid (∀ B, S.extract A (A + 3) ++ strOf ((l.drop 7).take B) = strOf (l.take 3 ++ (l.drop 7).take B)) := Lib.hid (fun B => by rw [H0.out, strOf_append])
      have HCK : Hid (∀ w a c B, Sl byteE 1 w a (l.take 3 ++ (l.drop 7).take B) → Calls Try.prog 170 #[.slice a (l.take 3 ++ (l.drop 7).take B).length c] w fun e w' => e = .returned (.int .i64 (crc (l.take 3 ++ (l.drop 7).take B))) ∧ w = w') := Lib.hid (fun w a c B h => l01Check_c a c (l.take 3 ++ (l.drop 7).take B) w h (by have := HDL.out; simp; omega))
      generalize bn (l.take 3) = B at *
      have H1 := Lib.hid HE1
      have H2 := Lib.hid HE2
      have H3' := Lib.hid HE3
      have H4 := Lib.hid HE4
      clear HE1 HE2 HE3 HE4
      go_wp2_with fail
      refine (HBN.out _).mono ?_
      rintro e w2 ⟨rfl, rfl⟩
      by_cases g2 : B < 1 ∨ 65536 < B
      · have HR := Lib.hid (show frJ L A ([], 0, 8) = X by rw [← (H1.out g2).out]; exact hT.out)
        rcases Nat.lt_or_ge B 1 with h | h
        · have k1 : (B : Int) < 1 := by omega
          have k2 : decide ((B : Int) < 1) = true := by simp; omega
          have k3 : B = 0 := by omega
          clear g2
          subst k3
          go_wp2_with fail
          go_ret3
          exact FrsR.of HR.out HF.out.1 HBW.out
        · have k1 : (1 : Int) ≤ (B : Int) := by omega
          have k2 : (65536 : Int) < (B : Int) := by omega
          have k3 : 65536 < B := by omega
          have k4 : ¬ B = 0 := by omega
          clear g2
          go_wp2_with fail
          go_ret3
          exact FrsR.of HR.out HF.out.1 HBW.out
      have hB1 : 1 ≤ B := by omega
      have hB2 : B ≤ 65536 := by omega
      have k1 : (1 : Int) ≤ (B : Int) := by omega
      have k2 : (B : Int) ≤ 65536 := by omega
      have k4 : ¬ B = 0 := by omega
      clear g2
      by_cases g3 : l0.length < A + 7 + B
      · have g3' : (S.size : Int) - (A : Int) - 7 < (B : Int) := by omega
        have HR := Lib.hid (show frJ L A ([], 0, 14) = X by rw [← (H2.out ⟨hB1, hB2⟩).out (by rw [HDL.out]; omega)]; exact hT.out)
        go_wp2_with fail
        go_ret3
        exact FrsR.of HR.out HF.out.1 HBW.out
      have g3' : (B : Int) ≤ (S.size : Int) - (A : Int) - 7 := by omega
      have g3n : A + 7 + B ≤ S.size := by omega
      have g3l : 7 + B ≤ l.length := by rw [HDL.out]; omega
      obtain ⟨D, hD⟩ : ∃ D, D = strOf ((l.drop 7).take B) := ⟨_, rfl⟩
      have hD7 : S.extract (A + 7) (A + 7 + B) = D := by rw [H7.out, hD]
      have hDs : D.size = B := by rw [hD, strOf_size]; simp; omega
      have hDs1 : D.size ≤ 65536 := by omega
      obtain ⟨Y, hY⟩ : ∃ Y, Y = S.extract A (A + 3) ++ D := ⟨_, rfl⟩
      have hYl : Y = strOf (l.take 3 ++ (l.drop 7).take B) := by rw [hY, hD, HAX.out]
      have hcv : ∀ w, (convert 9 41 (.string Y)).run Try.prog w = .ok (.slice (some ⟨w.heap.size, 0, none⟩) Y.size (cvC Y w)) (cvW Y w) := fun w => cv_run Y w
      have HCK2 : Hid (∀ w w1 c, w1 = cvW Y w → Calls Try.prog 170 #[.slice (some ⟨w.heap.size, 0, none⟩) Y.size c] w1 fun e w' => e = .returned (.int .i64 (crc (l.take 3 ++ (l.drop 7).take B))) ∧ w1 = w') := Lib.hid (fun w w1 c h => by
        subst h
        have h1 := cvW_sl Y w
        rw [hYl] at h1 ⊢
        exact HCK.out _ _ c B h1)
      have HB4 : Hid (∀ w, Calls Try.prog 165 #[.string (S.extract (A + 3) (A + 7))] w fun e w' => e = .returned (.int .i64 (bn ((l.drop 3).take 4))) ∧ w = w') := Lib.hid (fun w => by
        have := l02Of_c (S.extract (A + 3) (A + 7)) w hxs4
        rw [H3.out, strOf_toList] at this
        rw [H3.out]
        exact this)
      have HD := Lib.hid hD
      have HDs := Lib.hid hDs
      have h5 := (H3'.out ⟨hB1, hB2⟩).out g3l
      have h6 := (H4.out ⟨hB1, hB2⟩).out g3l
      have hYe : S.extract A (A + 3) ++ D = Y := hY.symm
      clear hD hDs HCK HBN hYl hY HAX
      generalize crc (l.take 3 ++ (l.drop 7).take B) = CR at *
      generalize bn ((l.drop 3).take 4) = B4 at *
      by_cases g5 : B4 = CR
      · have HA2 := Lib.hid (h6 g5)
        have HG5 := Lib.hid g5
        have c1 : ((CR : Int) != (B4 : Int)) = false := by simp; omega
        have c2 : ((CR : Int) == (B4 : Int)) = true := by simp; omega
        have c3 : decide ((CR : Int) = (B4 : Int)) = true := by simp; omega
        have c4 : decide (CR = B4) = true := by simp; omega
        have c5 : (CR != B4) = false := by simp; omega
        have c6 : (CR == B4) = true := by simp; omega
        clear h5 h6 g5
        have hw3 : IntKind.i64.wrap ((A : Int) + 3) = (A : Int) + 3 := IntWalk.i64_in _ ⟨by omega, by omega⟩
        have hw7 : IntKind.i64.wrap ((A : Int) + 7) = (A : Int) + 7 := IntWalk.i64_in _ ⟨by omega, by omega⟩
        have ht3 : ((A : Int) + 3).toNat = A + 3 := by omega
        have ht7 : ((A : Int) + 7).toNat = A + 7 := by omega
        have hp3 : (0 : Int) ≤ (A : Int) + 3 := by omega
        have hp7 : (0 : Int) ≤ (A : Int) + 7 := by omega
        have hq3 : (A : Int) + 3 ≤ (S.size : Int) := by omega
        have hq7 : (A : Int) + 7 ≤ (S.size : Int) := by omega
        have hqA : (A : Int) ≤ (S.size : Int) := by omega
        have hcat : ¬ 9223372036854775807 < 3 + D.size := by omega
        have hqa3 : (A : Int) ≤ (A : Int) + 3 := by omega
        have hq37 : (A : Int) + 3 ≤ (A : Int) + 7 := by omega
        go_wp2_with fail
        go_region_with
          (first
            | (go_at_call 170; refine (HCK2.out wr.drew _ _ rfl).mono ?_; rintro e w5 ⟨rfl, rfl⟩)
            | (go_at_call 165; refine (HB4.out _).mono ?_; rintro e w5 ⟨rfl, rfl⟩))
        all_goals
          have HFq := Lib.hid (HF.out.below ((Below.refl _ _).drew.trans (cvW_below Y wr.drew (Nat.le_refl _))))
          have HBq : Hid (Below w.heap.size w (cvW Y wr.drew)) := HBW.out.drew.trans (cvW_below Y wr.drew (by simpa using hz))
          have hzq : wr.heap.size ≤ (cvW Y wr.drew).heap.size := (cvW_below Y wr.drew (Nat.le_refl _)).size
          generalize cvW Y wr.drew = wx at *
          go_wp2_with (first
            | (skip
               at_builtin
               refine wpList_append_fresh rfl (.tmp 71) (.tmp 73) 26 26 rfl (w.heap.size) (wr.heap.size) 9 i0 (.string ⟨#[]⟩) 1 16 Try.underlying26 hi hz0 hz1 hz2 rfl (by decide) (.slice av L.length cv) (L) rfl (HFq.out.alloc _) _ ([D]) rfl (Src.ofBox (enc := strE) (w := wx) Try.underlying26 (fun _ => rfl) strOne D #[.string D] 9 rfl wx.heap.size rfl) (by (try simp) <;> (try omega)) (by (try simp) <;> (try omega)) ?_
               intro a2 c2 w2 L2 hL2 hf2 hm2
               skip))
          go_roundw
          case rel =>
            have hdl := HDL.out
            refine ⟨m, A + (7 + B), a2, c2, L2, by omega, by omega, by rw [hL2.out]; simp; omega, by go_num, rfl, ?_, hf2.1, ?_⟩
            · show _ = _
              rw [← hT.out, HA2.out, hL2.out, ← HD.out]
              rw [HL.out, List.drop_drop]
              simp [frJ]
              omega
            · exact (HBq.out.alloc (by omega) _).trans (hm2.below (by omega) (by simp; omega))
          case measure => simp [intOf]; omega
      · have HR := Lib.hid (show frJ L A ([], 0, 8) = X by rw [← h5 g5]; exact hT.out)
        have c1 : ((CR : Int) != (B4 : Int)) = true := by simp; omega
        have c2 : ((CR : Int) == (B4 : Int)) = false := by simp; omega
        have c3 : decide ((CR : Int) = (B4 : Int)) = false := by simp; omega
        have c4 : decide (CR = B4) = false := by simp; omega
        have c5 : (CR != B4) = true := by simp; omega
        have c6 : (CR == B4) = false := by simp; omega
        clear h5 h6 g5
        have hw3 : IntKind.i64.wrap ((A : Int) + 3) = (A : Int) + 3 := IntWalk.i64_in _ ⟨by omega, by omega⟩
        have hw7 : IntKind.i64.wrap ((A : Int) + 7) = (A : Int) + 7 := IntWalk.i64_in _ ⟨by omega, by omega⟩
        have ht3 : ((A : Int) + 3).toNat = A + 3 := by omega
        have ht7 : ((A : Int) + 7).toNat = A + 7 := by omega
        have hp3 : (0 : Int) ≤ (A : Int) + 3 := by omega
        have hp7 : (0 : Int) ≤ (A : Int) + 7 := by omega
        have hq3 : (A : Int) + 3 ≤ (S.size : Int) := by omega
        have hq7 : (A : Int) + 7 ≤ (S.size : Int) := by omega
        have hqA : (A : Int) ≤ (S.size : Int) := by omega
        have hcat : ¬ 9223372036854775807 < 3 + D.size := by omega
        have hqa3 : (A : Int) ≤ (A : Int) + 3 := by omega
        have hq37 : (A : Int) + 3 ≤ (A : Int) + 7 := by omega
        go_wp2_with fail
        go_region_with
          (first
            | (go_at_call 170; refine (HCK2.out wr.drew _ _ rfl).mono ?_; rintro e w5 ⟨rfl, rfl⟩)
            | (go_at_call 165; refine (HB4.out _).mono ?_; rintro e w5 ⟨rfl, rfl⟩))
        all_goals
          go_wp2_with fail
          go_ret3
          exact FrsR.of HR.out (HF.out.below ((Below.refl _ _).drew.trans (cvW_below Y wr.drew (Nat.le_refl _)))).1 (HBW.out.drew.trans (cvW_below Y wr.drew (by simpa using hz)))
    · obtain rfl : A = l0.length := by omega
      have hAs : S.size ≤ l0.length := hsz1
      have hr : frF f (l0.drop l0.length) = ([], 0, 0) := by rw [List.drop_length, frF_nil]
      have HR := Lib.hid (show frJ L l0.length ([], 0, 0) = X by rw [← hr]; exact hT.out)
      clear hr
      go_wp2_with fail
      go_ret3
      exact FrsR.of HR.out HF.out.1 HBW.out
end Go.Proofs.Ytmdjcoeijlnloaa
