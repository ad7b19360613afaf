/- impl.readFrames. No conditions but sizes. -/
import Derived.Test.YtmdjcoeijlnloaaFrs
namespace Go.Proofs.Ytmdjcoeijlnloaa
set_option linter.unusedVariables false
set_option linter.unusedSimpArgs false
open Go.RowKit
set_option maxRecDepth 100000 in
set_option maxHeartbeats 8000000 in
theorem readFrames_c (l0 : List UInt8) (w : World) (hs : l0.length ≤ 1048576) :
    Calls Try.prog 137 #[.string (strOf l0)] w (FrsR (frs l0) w) := by
  obtain ⟨i0, hi, hz0, hz1, hz2⟩ := info_parts Try.infoString
  have hxd := fun k => extract_drop l0 k
  have HXD := Lib.hid hxd
  have hsz : (strOf l0).size = l0.length := rfl
  have hsz1 : (strOf l0).size ≤ l0.length := Nat.le_of_eq hsz
  have hsz2 : l0.length ≤ (strOf l0).size := Nat.le_of_eq hsz.symm
  obtain ⟨X, hX⟩ : ∃ X, X = frs l0 := ⟨_, rfl⟩
  rw [← hX]
  have HX0 : Hid (frJ [] 0 (frF l0.length (l0.drop 0)) = X) := by
    show _ = _
    rw [hX]
    simp [frJ, frs]
  clear hX hxd hsz
  generalize strOf l0 = S at *
  go_enter Try.func137, Try.ntmps137
  go_wp2_with fail
  go_loopw [5, 6] (fun v p wr => ∃ (f A : Nat) (av : Option Addr) (cv : Nat) (L : List ByteArray), A ≤ l0.length ∧ l0.length ≤ A + f ∧ L.length ≤ A ∧ p = .int .i64 A ∧ v = .slice av L.length cv ∧ Hid (frJ L A (frF f (l0.drop A)) = X) ∧ Fresh strE 9 1 w.heap.size (.slice av L.length cv) L wr ∧ Below w.heap.size w wr) (fun _ p _ => l0.length - (intOf p).toNat)
  case atStart => exact ⟨l0.length, 0, none, 0, [], by omega, by omega, by simp, rfl, rfl, HX0, (FreshIn.nil _ _ _ _ 0 _).1, Below.refl _ _⟩
  case round =>
    obtain ⟨f, A, av, cv, L, hA, hAf, hLA, rfl, rfl, hT, hf, hbel⟩ := hrel
    have HF := Lib.hid hf.here
    have HBW := Lib.hid hbel
    have hz := hbel.size
    clear hf hbel
    by_cases hAl : A < l0.length
    · obtain ⟨m, rfl⟩ : ∃ m, f = m + 1 := ⟨f - 1, by omega⟩
      have hAs : A < S.size := by omega
      have hAs2 : A ≤ S.size := by omega
      have hdl : (l0.drop A).length = l0.length - A := by simp
      have hdr : S.extract A S.size = strOf (l0.drop A) := HXD.out A
      have HDR2 := fun k => Lib.hid (show (l0.drop A).drop k = l0.drop (A + k) by rw [List.drop_drop])
      have hHDR := Lib.hid HDR2
      clear HDR2
      obtain ⟨l, hl⟩ : ∃ l, l = l0.drop A := ⟨_, rfl⟩
      rw [← hl] at hT hdl hdr
      have HL := Lib.hid hl
      clear hl
      have hxt := fun i k => extract_mid l i k
      have hR0 : (strOf l).size = l.length := rfl
      obtain ⟨R, hR⟩ : ∃ R, R = strOf l := ⟨_, rfl⟩
      rw [← hR] at hdr hR0
      have hx0 : R.extract 0 3 = strOf (l.take 3) := by rw [hR]; exact extract_take l 3
      have hx3 : R.extract 3 7 = strOf ((l.drop 3).take 4) := by rw [hR]; exact hxt 3 4
      have hx7 : ∀ B, R.extract 7 (7 + B) = strOf ((l.drop 7).take B) := fun B => by rw [hR]; exact hxt 7 B
      have H0 := Lib.hid hx0
      have H3 := Lib.hid hx3
      have H7 := Lib.hid hx7
      have HDL := Lib.hid hdl
      have HR0 := Lib.hid hR0
      clear hx0 hx3 hx7 hR hxt hdl
      by_cases g1 : l.length < 7
      · have g1' : R.size < 7 := by omega
        have g1'' : (R.size : Int) < 7 := by omega
        have hr := frF_short (n := m) (l := l) (by rw [HDL.out]; omega) g1
        have HR := Lib.hid (show frJ L A ([], 0, 14) = X by rw [← hr]; exact hT.out)
        clear hr hR0
        go_wp2_with fail
        go_ret3
        exact FrsR.of HR.out HF.out.1 HBW.out
      have g1' : 7 ≤ R.size := by omega
      have g1'' : (7 : Int) ≤ (R.size : Int) := by omega
      have g3' : 3 ≤ R.size := by omega
      have hxs : (R.extract 0 3).size ≤ 5 := by rw [H0.out, strOf_size]; simp; omega
      have hxs4 : (R.extract 3 7).size ≤ 5 := by rw [H3.out, strOf_size]; simp; omega
      have HLn := Lib.hid (show 7 ≤ l.length by omega)
      have HE1 := fun h => Lib.hid (frF_long (n := m) (l := l) HLn.out h)
      have HE2 := fun h => Lib.hid (frF_cut (n := m) (l := l) HLn.out h)
      have HE3 := fun h => Lib.hid (frF_sum (n := m) (l := l) HLn.out h)
      have HE4 := fun h => Lib.hid (frF_ok (n := m) (l := l) HLn.out h)
      have HBN : Hid (∀ w, Calls Try.prog 167 #[.string (R.extract 0 3)] w fun e w' => e = .returned (.int .i64 (bn (l.take 3))) ∧ w = w') := Lib.hid (fun w => by
        have := bigNumber_c (R.extract 0 3) w hxs
        rw [H0.out, strOf_toList] at this
        rw [H0.out]
        exact this)
      have HCK : Hid (∀ w B, Calls Try.prog 171 #[.string (R.extract 0 3 ++ strOf ((l.drop 7).take B))] w fun e w' => e = .returned (.int .i64 (crc (l.take 3 ++ (l.drop 7).take B))) ∧ w = w') := Lib.hid (fun w B => by
        have h1 : (strOf (l.take 3 ++ (l.drop 7).take B)).size ≤ 1099511627776 := by have := HDL.out; rw [strOf_size]; simp; omega
        have := check32_c (strOf (l.take 3 ++ (l.drop 7).take B)) w h1
        rw [strOf_toList] at this
        rw [H0.out, strOf_append]
        exact this)
      generalize bn (l.take 3) = B at *
      have H1 := Lib.hid HE1
      have H2 := Lib.hid HE2
      have H3' := Lib.hid HE3
      have H4 := Lib.hid HE4
      clear HE1 HE2 HE3 HE4 hR0
      go_wp2_with fail
      refine (HBN.out _).mono ?_
      rintro e w2 ⟨rfl, rfl⟩
      by_cases g2 : B < 1 ∨ 65536 < B
      · have hin : inB (B : Int) 1 65536 = false := by simp [inB]; omega
        have HI := Lib.hid hin
        have HR := Lib.hid (show frJ L A ([], 0, 8) = X by rw [← (H1.out g2).out]; exact hT.out)
        clear hin
        go_wp2_with (go_at_call 91; refine (within_c _ _ _ _).mono ?_; rw [HI.out]; rintro e w' ⟨rfl, rfl⟩)
        go_ret3
        exact FrsR.of HR.out HF.out.1 HBW.out
      have hB1 : 1 ≤ B := by omega
      have hB2 : B ≤ 65536 := by omega
      have hin : inB (B : Int) 1 65536 = true := by simp [inB]; omega
      have HI := Lib.hid hin
      clear hin g2
      by_cases g3 : l.length < 7 + B
      · have g3' : R.size < 7 + B := by have := HR0.out; omega
        have g3'' : (R.size : Int) < 7 + (B : Int) := by omega
        have HR := Lib.hid (show frJ L A ([], 0, 14) = X by rw [← (H2.out ⟨hB1, hB2⟩).out g3]; exact hT.out)
        go_wp2_with (go_at_call 91; refine (within_c _ _ _ _).mono ?_; rw [HI.out]; rintro e w' ⟨rfl, rfl⟩)
        go_ret3
        exact FrsR.of HR.out HF.out.1 HBW.out
      have g3' : 7 + B ≤ R.size := by have := HR0.out; omega
      have g3'' : 7 + (B : Int) ≤ (R.size : Int) := by omega
      have g3l : 7 + B ≤ l.length := by omega
      obtain ⟨D, hD⟩ : ∃ D, D = strOf ((l.drop 7).take B) := ⟨_, rfl⟩
      have hD7 : R.extract 7 (7 + B) = D := by rw [H7.out, hD]
      have hDs : D.size = B := by rw [hD, strOf_size]; simp; omega
      have hDs1 : D.size ≤ 65536 := by omega
      have HCK2 : Hid (∀ w, Calls Try.prog 171 #[.string (R.extract 0 3 ++ D)] w fun e w' => e = .returned (.int .i64 (crc (l.take 3 ++ (l.drop 7).take B))) ∧ w = w') := Lib.hid (fun w => by
        rw [hD]
        exact HCK.out w B)
      have HB4 : Hid (∀ w, Calls Try.prog 167 #[.string (R.extract 3 7)] w fun e w' => e = .returned (.int .i64 (bn ((l.drop 3).take 4))) ∧ w = w') := Lib.hid (fun w => by
        have := bigNumber_c (R.extract 3 7) w hxs4
        rw [H3.out, strOf_toList] at this
        rw [H3.out]
        exact this)
      have HD := Lib.hid hD
      have HDs := Lib.hid hDs
      have h5 := (H3'.out ⟨hB1, hB2⟩).out g3l
      have h6 := (H4.out ⟨hB1, hB2⟩).out g3l
      clear hD hDs HCK HBN
      generalize crc (l.take 3 ++ (l.drop 7).take B) = CR at *
      generalize bn ((l.drop 3).take 4) = B4 at *
      by_cases g5 : B4 = CR
      · have HA2 := Lib.hid (h6 g5)
        have HG5 := Lib.hid g5
        have c1 : ((B4 : Int) != (CR : Int)) = false := by simp; omega
        have c2 : ((B4 : Int) == (CR : Int)) = true := by simp; omega
        have c3 : decide ((B4 : Int) = (CR : Int)) = true := by simp; omega
        have c4 : decide (B4 = CR) = true := by simp; omega
        have c5 : (B4 != CR) = false := by simp; omega
        have c6 : (B4 == CR) = true := by simp; omega
        clear h5 h6 g5
        go_wp2_with (go_at_call 91; refine (within_c _ _ _ _).mono ?_; rw [HI.out]; rintro e w' ⟨rfl, rfl⟩)
        go_quiet ((first
          | (go_at_call 171; exact (HCK2.out _).mono fun _ _ h => ⟨h.1, _, h.2.symm⟩)
          | (go_at_call 167; exact (HB4.out _).mono fun _ _ h => ⟨h.1, _, h.2.symm⟩)))
        have HFq := Lib.hid (HF.out.below (below_drewN wr nq wr.heap.size))
        have HBq : Hid (Below w.heap.size w (wr.drewN nq)) := HBW.out.trans (below_drewN _ _ _)
        have hzq : wr.heap.size = (wr.drewN nq).heap.size := rfl
        generalize wr.drewN nq = wx at *
        go_wp2_with (first
          | (skip
             at_builtin
             refine wpList_append_fresh rfl (.tmp 54) (.tmp 56) 26 26 rfl (w.heap.size) (wr.heap.size) 9 i0 (.string ⟨#[]⟩) 1 16 Try.underlying26 hi hz0 hz1 hz2 rfl (by decide) (.slice av L.length cv) (L) rfl (HFq.out.alloc _) _ ([D]) rfl (Src.ofBox (enc := strE) (w := wx) Try.underlying26 (fun _ => rfl) strOne D #[.string D] 9 rfl wx.heap.size rfl) (by (try simp) <;> (try omega)) (by (try simp) <;> (try omega)) ?_
             intro a2 c2 w2 L2 hL2 hf2 hm2
             skip))
        go_roundw
        case rel =>
          have hdl := HDL.out
          refine ⟨m, A + (7 + B), a2, c2, L2, by omega, by omega, by rw [hL2.out]; simp; omega, by go_num, rfl, ?_, hf2.1, ?_⟩
          · show _ = _
            rw [← hT.out, HA2.out, hL2.out, ← HD.out]
            rw [HL.out, List.drop_drop]
            simp [frJ]
            omega
          · exact (HBq.out.alloc (by omega) _).trans (hm2.below (by omega) (by simp; omega))
        case measure => simp [intOf]; omega
      · have HR := Lib.hid (show frJ L A ([], 0, 8) = X by rw [← h5 g5]; exact hT.out)
        have c1 : ((B4 : Int) != (CR : Int)) = true := by simp; omega
        have c2 : ((B4 : Int) == (CR : Int)) = false := by simp; omega
        have c3 : decide ((B4 : Int) = (CR : Int)) = false := by simp; omega
        have c4 : decide (B4 = CR) = false := by simp; omega
        have c5 : (B4 != CR) = true := by simp; omega
        have c6 : (B4 == CR) = false := by simp; omega
        clear h5 h6 g5
        go_wp2_with (go_at_call 91; refine (within_c _ _ _ _).mono ?_; rw [HI.out]; rintro e w' ⟨rfl, rfl⟩)
        go_quiet ((first
          | (go_at_call 171; exact (HCK2.out _).mono fun _ _ h => ⟨h.1, _, h.2.symm⟩)
          | (go_at_call 167; exact (HB4.out _).mono fun _ _ h => ⟨h.1, _, h.2.symm⟩)))
        go_wp2_with fail
        go_ret3
        exact FrsR.of HR.out (HF.out.below (below_drewN _ _ _)).1 (HBW.out.trans (below_drewN _ _ _))
    · obtain rfl : A = l0.length := by omega
      have hAs : S.size ≤ l0.length := hsz1
      have hAs3 : ¬ (l0.length : Int) < (S.size : Int) := by omega
      have hr : frF f (l0.drop l0.length) = ([], 0, 0) := by rw [List.drop_length, frF_nil]
      have HR := Lib.hid (show frJ L l0.length ([], 0, 0) = X by rw [← hr]; exact hT.out)
      clear hr
      go_wp2_with fail
      go_ret3
      exact FrsR.of HR.out HF.out.1 HBW.out
end Go.Proofs.Ytmdjcoeijlnloaa
