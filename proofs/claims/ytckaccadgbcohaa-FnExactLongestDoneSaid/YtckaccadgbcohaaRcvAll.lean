/- Recover of both: what it returns. No conditions but sizes. -/
import Derived.Test.YtckaccadgbcohaaRd2
import Derived.Test.YtckaccadgbcohaaCrc
import Derived.Deep.RegionLaw
import Derived.Laws.IdiomStrings
import Derived.Test.YtckaccadgbcohaaAppAll
import Derived.Test.YtckaccadgbcohaaSapAll
import Derived.Test.YtckaccadgbcohaaStore2
import Derived.Deep.RegionHeld3
namespace Go.Proofs.Ytckaccadgbcohaa
set_option linter.unusedVariables false
set_option linter.unusedSimpArgs false
section
open Go.RowKit
/-- The frames of a list of bytes, how many bytes they take, and a code. -/
def frF : Nat → List UInt8 → List ByteArray × Nat × Int
  | 0, _ => ([], 0, 0)
  | n + 1, l =>
    if l = [] then ([], 0, 0) else if l.length < 7 then ([], 0, 14)
    else if bn (l.take 3) < 1 ∨ 65536 < bn (l.take 3) then ([], 0, 8)
    else if l.length < 7 + bn (l.take 3) then ([], 0, 14)
    else if bn ((l.drop 3).take 4) ≠ crc (l.take 3 ++ (l.drop 7).take (bn (l.take 3))) then ([], 0, 8)
    else (strOf ((l.drop 7).take (bn (l.take 3))) :: (frF n (l.drop (7 + bn (l.take 3)))).1, 7 + bn (l.take 3) + (frF n (l.drop (7 + bn (l.take 3)))).2.1, (frF n (l.drop (7 + bn (l.take 3)))).2.2)
def frs (l : List UInt8) : List ByteArray × Nat × Int := frF l.length l
/-- How the loop's state and the rest make the whole. -/
def frJ (L : List ByteArray) (A : Nat) (x : List ByteArray × Nat × Int) : List ByteArray × Nat × Int := (L ++ x.1, A + x.2.1, x.2.2)
def FrsR (x : List ByteArray × Nat × Int) (w : World) (e : Ending) (w' : World) : Prop :=
  ∃ a c, e = .returned (.tuple #[.slice a x.1.length c, .int .i64 x.2.1, .int .i64 x.2.2]) ∧ Fresh strE 9 1 w.heap.size (.slice a x.1.length c) x.1 w' ∧ Below w.heap.size w w'
theorem FrsR.of {x : List ByteArray × Nat × Int} {L : List ByteArray} {A : Nat} {cd : Int} {a : Option Addr} {c : Nat} {w w' : World} (h : frJ L A ([], 0, cd) = x) (hf : Fresh strE 9 1 w.heap.size (.slice a L.length c) L w') (hb : Below w.heap.size w w') :
    FrsR x w (.returned (.tuple #[.slice a L.length c, .int .i64 A, .int .i64 cd])) w' := by
  subst h
  refine ⟨a, c, ?_, ?_, hb⟩
  · simp [frJ]
  · simpa [frJ] using hf
theorem frF_nil (n : Nat) : frF n [] = ([], 0, 0) := by cases n <;> rfl
section
variable {n : Nat} {l : List UInt8}
theorem frF_short (h0 : 0 < l.length) (h : l.length < 7) : frF (n + 1) l = ([], 0, 14) := by
  rw [frF, if_neg (fun h => by rw [h] at h0; simp at h0), if_pos h]
theorem frF_long (h0 : 7 ≤ l.length) (h : bn (l.take 3) < 1 ∨ 65536 < bn (l.take 3)) : frF (n + 1) l = ([], 0, 8) := by
  rw [frF, if_neg (fun h => by rw [h] at h0; simp at h0), if_neg (by omega), if_pos h]
theorem frF_cut (h0 : 7 ≤ l.length) (h : 1 ≤ bn (l.take 3) ∧ bn (l.take 3) ≤ 65536) (h2 : l.length < 7 + bn (l.take 3)) : frF (n + 1) l = ([], 0, 14) := by
  rw [frF, if_neg (fun h => by rw [h] at h0; simp at h0), if_neg (by omega), if_neg (by omega), if_pos h2]
theorem frF_sum (h0 : 7 ≤ l.length) (h : 1 ≤ bn (l.take 3) ∧ bn (l.take 3) ≤ 65536) (h2 : 7 + bn (l.take 3) ≤ l.length) (h3 : bn ((l.drop 3).take 4) ≠ crc (l.take 3 ++ (l.drop 7).take (bn (l.take 3)))) : frF (n + 1) l = ([], 0, 8) := by
  rw [frF, if_neg (fun h => by rw [h] at h0; simp at h0), if_neg (by omega), if_neg (by omega), if_neg (by omega), if_pos h3]
theorem frF_ok (h0 : 7 ≤ l.length) (h : 1 ≤ bn (l.take 3) ∧ bn (l.take 3) ≤ 65536) (h2 : 7 + bn (l.take 3) ≤ l.length) (h3 : bn ((l.drop 3).take 4) = crc (l.take 3 ++ (l.drop 7).take (bn (l.take 3)))) :
    frF (n + 1) l = (strOf ((l.drop 7).take (bn (l.take 3))) :: (frF n (l.drop (7 + bn (l.take 3)))).1, 7 + bn (l.take 3) + (frF n (l.drop (7 + bn (l.take 3)))).2.1, (frF n (l.drop (7 + bn (l.take 3)))).2.2) := by
  rw [frF, if_neg (fun h => by rw [h] at h0; simp at h0), if_neg (by omega), if_neg (by omega), if_neg (by omega), if_neg (fun h => h h3)]
end
/-- What '[]byte(s)' leaves. -/
noncomputable def cvC (s : ByteArray) (w : World) : Nat := grownCap w s.size 0 5
noncomputable def cvW (s : ByteArray) (w : World) : World := w.drew.alloc (.cells (bytesRow s (cvC s w)) 5 ((bytesRow s (cvC s w)).size, (bytesRow s (cvC s w)).size + 1))
theorem cv_run (s : ByteArray) (w : World) : (convert 9 112 (.string s)).run Try.prog w = .ok (.slice (some ⟨w.heap.size, 0, none⟩) s.size (cvC s w)) (cvW s w) :=
  run_bytes_of_string w 9 112 5 s Try.underlying9 Try.underlying112 Try.underlying5
theorem cvW_below (s : ByteArray) (w : World) {B : Nat} (h : B ≤ w.heap.size) : Below B w (cvW s w) := ((Below.refl B w).drew).alloc h _
theorem cvW_sl (s : ByteArray) (w : World) : Sl byteE 1 (cvW s w) (some ⟨w.heap.size, 0, none⟩) s.data.toList := by
  refine .inr ⟨w.heap.size, 0, rfl, by simp [cvW], fun i hi j hj => ?_⟩
  obtain rfl : j = 0 := by omega
  have h1 : (cvW s w).cell? ⟨w.heap.size, 0 + i * 1 + 0, none⟩ = (bytesRow s (cvC s w))[0 + i * 1 + 0]? :=
    cell_of_row (cvW s w) w.heap.size _ _ _ _ (heap_alloc_new w.drew _)
  rw [h1]
  have h2 := bytesRow_at s (cvC s w) i (by simpa using hi)
  simp only [Nat.zero_add, Nat.mul_one, Nat.add_zero]
  rw [h2]
  simp [byteE]
end
section
open Go.RowKit
set_option maxRecDepth 100000 in
set_option maxHeartbeats 8000000 in
theorem readFrames_c (l0 : List UInt8) (w : World) (hs : l0.length ≤ 1048576) :
    Calls Try.prog 101 #[.string (strOf l0)] w (FrsR (frs l0) w) := by
  obtain ⟨i0, hi, hz0, hz1, hz2⟩ := info_parts Try.infoString
  have hxd := fun k => extract_drop l0 k
  have HXD := Lib.hid hxd
  have hsz : (strOf l0).size = l0.length := rfl
  have hsz1 : (strOf l0).size ≤ l0.length := Nat.le_of_eq hsz
  have hsz2 : l0.length ≤ (strOf l0).size := Nat.le_of_eq hsz.symm
  obtain ⟨X, hX⟩ : ∃ X, X = frs l0 := ⟨_, rfl⟩
  rw [← hX]
  have HX0 : Hid (frJ [] 0 (frF l0.length (l0.drop 0)) = X) := by
    show _ = _
    rw [hX]
    simp [frJ, frs]
  clear hX hxd hsz
  generalize strOf l0 = S at *
  go_enter Try.func101, Try.ntmps101
  go_wp2_with fail
  go_loopw [5, 6] (fun v p wr => ∃ (f A : Nat) (av : Option Addr) (cv : Nat) (L : List ByteArray), A ≤ l0.length ∧ l0.length ≤ A + f ∧ L.length ≤ A ∧ p = .int .i64 A ∧ v = .slice av L.length cv ∧ Hid (frJ L A (frF f (l0.drop A)) = X) ∧ Fresh strE 9 1 w.heap.size (.slice av L.length cv) L wr ∧ Below w.heap.size w wr) (fun _ p _ => l0.length - (intOf p).toNat)
  case atStart => exact ⟨l0.length, 0, none, 0, [], by omega, by omega, by simp, rfl, rfl, HX0, (FreshIn.nil _ _ _ _ 0 _).1, Below.refl _ _⟩
  case round =>
    obtain ⟨f, A, av, cv, L, hA, hAf, hLA, rfl, rfl, hT, hf, hbel⟩ := hrel
    have HF := Lib.hid hf.here
    have HBW := Lib.hid hbel
    have hz := hbel.size
    clear hf hbel
    by_cases hAl : A < l0.length
    · obtain ⟨m, rfl⟩ : ∃ m, f = m + 1 := ⟨f - 1, by omega⟩
      have hAs : A < S.size := by omega
      have hAs2 : A ≤ S.size := by omega
      have hdl : (l0.drop A).length = l0.length - A := by simp
      have hdr : S.extract A S.size = strOf (l0.drop A) := HXD.out A
      have HDR2 := fun k => Lib.hid (show (l0.drop A).drop k = l0.drop (A + k) by rw [List.drop_drop])
      have hHDR := Lib.hid HDR2
      clear HDR2
      obtain ⟨l, hl⟩ : ∃ l, l = l0.drop A := ⟨_, rfl⟩
      rw [← hl] at hT hdl hdr
      have HL := Lib.hid hl
      clear hl
      have hxt := fun i k => extract_mid l i k
      have hR0 : (strOf l).size = l.length := rfl
      obtain ⟨R, hR⟩ : ∃ R, R = strOf l := ⟨_, rfl⟩
      rw [← hR] at hdr hR0
      have hx0 : R.extract 0 3 = strOf (l.take 3) := by rw [hR]; exact extract_take l 3
      have hx3 : R.extract 3 7 = strOf ((l.drop 3).take 4) := by rw [hR]; exact hxt 3 4
      have hx7 : ∀ B, R.extract 7 (7 + B) = strOf ((l.drop 7).take B) := fun B => by rw [hR]; exact hxt 7 B
      have H0 := Lib.hid hx0
      have H3 := Lib.hid hx3
      have H7 := Lib.hid hx7
      have HDL := Lib.hid hdl
      have HR0 := Lib.hid hR0
      clear hx0 hx3 hx7 hR hxt hdl
      by_cases g1 : l.length < 7
      · have g1' : R.size < 7 := by omega
        have g1'' : (R.size : Int) < 7 := by omega
        have hr := frF_short (n := m) (l := l) (by rw [HDL.out]; omega) g1
        have HR := Lib.hid (show frJ L A ([], 0, 14) = X by rw [← hr]; exact hT.out)
        clear hr hR0
        go_wp2_with fail
        go_ret3
        exact FrsR.of HR.out HF.out.1 HBW.out
      have g1' : 7 ≤ R.size := by omega
      have g1'' : (7 : Int) ≤ (R.size : Int) := by omega
      have g3' : 3 ≤ R.size := by omega
      have hxs : (R.extract 0 3).size ≤ 5 := by rw [H0.out, strOf_size]; simp; omega
      have hxs4 : (R.extract 3 7).size ≤ 5 := by rw [H3.out, strOf_size]; simp; omega
      have HLn := Lib.hid (show 7 ≤ l.length by omega)
      have HE1 := fun h => Lib.hid (frF_long (n := m) (l := l) HLn.out h)
      have HE2 := fun h => Lib.hid (frF_cut (n := m) (l := l) HLn.out h)
      have HE3 := fun h => Lib.hid (frF_sum (n := m) (l := l) HLn.out h)
      have HE4 := fun h => Lib.hid (frF_ok (n := m) (l := l) HLn.out h)
      have HBN : Hid (∀ w, Calls Try.prog 111 #[.string (R.extract 0 3)] w fun e w' => e = .returned (.int .i64 (bn (l.take 3))) ∧ w = w') := Lib.hid (fun w => by
        have := bigNumber_c (R.extract 0 3) w hxs
        rw [H0.out, strOf_toList] at this
        rw [H0.out]
        exact this)
      have HCK : Hid (∀ w B, Calls Try.prog 112 #[.string (R.extract 0 3 ++ strOf ((l.drop 7).take B))] w fun e w' => e = .returned (.int .i64 (crc (l.take 3 ++ (l.drop 7).take B))) ∧ w = w') := Lib.hid (fun w B => by
        have h1 : (strOf (l.take 3 ++ (l.drop 7).take B)).size ≤ 1099511627776 := by have := HDL.out; rw [strOf_size]; simp; omega
        have := check32_c (strOf (l.take 3 ++ (l.drop 7).take B)) w h1
        rw [strOf_toList] at this
        rw [H0.out, strOf_append]
        exact this)
      generalize bn (l.take 3) = B at *
      have H1 := Lib.hid HE1
      have H2 := Lib.hid HE2
      have H3' := Lib.hid HE3
      have H4 := Lib.hid HE4
      clear HE1 HE2 HE3 HE4 hR0
      go_wp2_with fail
      refine (HBN.out _).mono ?_
      rintro e w2 ⟨rfl, rfl⟩
      by_cases g2 : B < 1 ∨ 65536 < B
      · have hin : inB (B : Int) 1 65536 = false := by simp [inB]; omega
        have HI := Lib.hid hin
        have HR := Lib.hid (show frJ L A ([], 0, 8) = X by rw [← (H1.out g2).out]; exact hT.out)
        clear hin
        go_wp2_with (go_at_call 55; refine (within_c _ _ _ _).mono ?_; rw [HI.out]; rintro e w' ⟨rfl, rfl⟩)
        go_ret3
        exact FrsR.of HR.out HF.out.1 HBW.out
      have hB1 : 1 ≤ B := by omega
      have hB2 : B ≤ 65536 := by omega
      have hin : inB (B : Int) 1 65536 = true := by simp [inB]; omega
      have HI := Lib.hid hin
      clear hin g2
      by_cases g3 : l.length < 7 + B
      · have g3' : R.size < 7 + B := by have := HR0.out; omega
        have g3'' : (R.size : Int) < 7 + (B : Int) := by omega
        have HR := Lib.hid (show frJ L A ([], 0, 14) = X by rw [← (H2.out ⟨hB1, hB2⟩).out g3]; exact hT.out)
        go_wp2_with (go_at_call 55; refine (within_c _ _ _ _).mono ?_; rw [HI.out]; rintro e w' ⟨rfl, rfl⟩)
        go_ret3
        exact FrsR.of HR.out HF.out.1 HBW.out
      have g3' : 7 + B ≤ R.size := by have := HR0.out; omega
      have g3'' : 7 + (B : Int) ≤ (R.size : Int) := by omega
      have g3l : 7 + B ≤ l.length := by omega
      obtain ⟨D, hD⟩ : ∃ D, D = strOf ((l.drop 7).take B) := ⟨_, rfl⟩
      have hD7 : R.extract 7 (7 + B) = D := by rw [H7.out, hD]
      have hDs : D.size = B := by rw [hD, strOf_size]; simp; omega
      have hDs1 : D.size ≤ 65536 := by omega
      have HCK2 : Hid (∀ w, Calls Try.prog 112 #[.string (R.extract 0 3 ++ D)] w fun e w' => e = .returned (.int .i64 (crc (l.take 3 ++ (l.drop 7).take B))) ∧ w = w') := Lib.hid (fun w => by
        rw [hD]
        exact HCK.out w B)
      have HB4 : Hid (∀ w, Calls Try.prog 111 #[.string (R.extract 3 7)] w fun e w' => e = .returned (.int .i64 (bn ((l.drop 3).take 4))) ∧ w = w') := Lib.hid (fun w => by
        have := bigNumber_c (R.extract 3 7) w hxs4
        rw [H3.out, strOf_toList] at this
        rw [H3.out]
        exact this)
      have HD := Lib.hid hD
      have HDs := Lib.hid hDs
      have h5 := (H3'.out ⟨hB1, hB2⟩).out g3l
      have h6 := (H4.out ⟨hB1, hB2⟩).out g3l
      clear hD hDs HCK HBN
      generalize crc (l.take 3 ++ (l.drop 7).take B) = CR at *
      generalize bn ((l.drop 3).take 4) = B4 at *
      by_cases g5 : B4 = CR
      · have HA2 := Lib.hid (h6 g5)
        have HG5 := Lib.hid g5
        have c1 : ((B4 : Int) != (CR : Int)) = false := by simp; omega
        have c2 : ((B4 : Int) == (CR : Int)) = true := by simp; omega
        have c3 : decide ((B4 : Int) = (CR : Int)) = true := by simp; omega
        have c4 : decide (B4 = CR) = true := by simp; omega
        have c5 : (B4 != CR) = false := by simp; omega
        have c6 : (B4 == CR) = true := by simp; omega
        clear h5 h6 g5
        go_wp2_with (go_at_call 55; refine (within_c _ _ _ _).mono ?_; rw [HI.out]; rintro e w' ⟨rfl, rfl⟩)
        go_quiet ((first
          | (go_at_call 112; exact (HCK2.out _).mono fun _ _ h => ⟨h.1, _, h.2.symm⟩)
          | (go_at_call 111; exact (HB4.out _).mono fun _ _ h => ⟨h.1, _, h.2.symm⟩)))
        have HFq := Lib.hid (HF.out.below (below_drewN wr nq wr.heap.size))
        have HBq : Hid (Below w.heap.size w (wr.drewN nq)) := HBW.out.trans (below_drewN _ _ _)
        have hzq : wr.heap.size = (wr.drewN nq).heap.size := rfl
        generalize wr.drewN nq = wx at *
        go_wp2_with (first
          | (skip
             at_builtin
             refine wpList_append_fresh rfl (.tmp 54) (.tmp 56) 25 25 rfl (w.heap.size) (wr.heap.size) 9 i0 (.string ⟨#[]⟩) 1 16 Try.underlying25 hi hz0 hz1 hz2 rfl (by decide) (.slice av L.length cv) (L) rfl (HFq.out.alloc _) _ ([D]) rfl (Src.ofBox (enc := strE) (w := wx) Try.underlying25 (fun _ => rfl) strOne D #[.string D] 9 rfl wx.heap.size rfl) (by (try simp) <;> (try omega)) (by (try simp) <;> (try omega)) ?_
             intro a2 c2 w2 L2 hL2 hf2 hm2
             skip))
        go_roundw
        case rel =>
          have hdl := HDL.out
          refine ⟨m, A + (7 + B), a2, c2, L2, by omega, by omega, by rw [hL2.out]; simp; omega, by go_num, rfl, ?_, hf2.1, ?_⟩
          · show _ = _
            rw [← hT.out, HA2.out, hL2.out, ← HD.out]
            rw [HL.out, List.drop_drop]
            simp [frJ]
            omega
          · exact (HBq.out.alloc (by omega) _).trans (hm2.below (by omega) (by simp; omega))
        case measure => simp [intOf]; omega
      · have HR := Lib.hid (show frJ L A ([], 0, 8) = X by rw [← h5 g5]; exact hT.out)
        have c1 : ((B4 : Int) != (CR : Int)) = true := by simp; omega
        have c2 : ((B4 : Int) == (CR : Int)) = false := by simp; omega
        have c3 : decide ((B4 : Int) = (CR : Int)) = false := by simp; omega
        have c4 : decide (B4 = CR) = false := by simp; omega
        have c5 : (B4 != CR) = true := by simp; omega
        have c6 : (B4 == CR) = false := by simp; omega
        clear h5 h6 g5
        go_wp2_with (go_at_call 55; refine (within_c _ _ _ _).mono ?_; rw [HI.out]; rintro e w' ⟨rfl, rfl⟩)
        go_quiet ((first
          | (go_at_call 112; exact (HCK2.out _).mono fun _ _ h => ⟨h.1, _, h.2.symm⟩)
          | (go_at_call 111; exact (HB4.out _).mono fun _ _ h => ⟨h.1, _, h.2.symm⟩)))
        go_wp2_with fail
        go_ret3
        exact FrsR.of HR.out (HF.out.below (below_drewN _ _ _)).1 (HBW.out.trans (below_drewN _ _ _))
    · obtain rfl : A = l0.length := by omega
      have hAs : S.size ≤ l0.length := hsz1
      have hAs3 : ¬ (l0.length : Int) < (S.size : Int) := by omega
      have hr : frF f (l0.drop l0.length) = ([], 0, 0) := by rw [List.drop_length, frF_nil]
      have HR := Lib.hid (show frJ L l0.length ([], 0, 0) = X by rw [← hr]; exact hT.out)
      clear hr
      go_wp2_with fail
      go_ret3
      exact FrsR.of HR.out HF.out.1 HBW.out
end
section
open Go.RowKit
set_option maxRecDepth 100000 in
set_option maxHeartbeats 8000000 in
theorem l02Frames_c (l0 : List UInt8) (w : World) (hs : l0.length ≤ 1048576) :
    Calls Try.prog 65 #[.string (strOf l0)] w (FrsR (frs l0) w) := by
  obtain ⟨i0, hi, hz0, hz1, hz2⟩ := info_parts Try.infoString
  have hex := fun i k => extract_mid l0 i k
  have HEX := Lib.hid hex
  have hsz : (strOf l0).size = l0.length := rfl
  have hsz1 : (strOf l0).size ≤ l0.length := Nat.le_of_eq hsz
  have hsz2 : l0.length ≤ (strOf l0).size := Nat.le_of_eq hsz.symm
  obtain ⟨X, hX⟩ : ∃ X, X = frs l0 := ⟨_, rfl⟩
  rw [← hX]
  have HX0 : Hid (frJ [] 0 (frF l0.length (l0.drop 0)) = X) := by
    show _ = _
    rw [hX]
    simp [frJ, frs]
  clear hX hex hsz
  generalize strOf l0 = S at *
  go_enter Try.func65, Try.ntmps65
  go_wp2_with fail
  go_loopw [5, 6] (fun v p wr => ∃ (f A : Nat) (av : Option Addr) (cv : Nat) (L : List ByteArray), A ≤ l0.length ∧ l0.length ≤ A + f ∧ L.length ≤ A ∧ p = .int .i64 A ∧ v = .slice av L.length cv ∧ Hid (frJ L A (frF f (l0.drop A)) = X) ∧ Fresh strE 9 1 w.heap.size (.slice av L.length cv) L wr ∧ Below w.heap.size w wr) (fun _ p _ => l0.length - (intOf p).toNat)
  case atStart => exact ⟨l0.length, 0, _, _, [], by omega, by omega, by simp, rfl, rfl, HX0, fresh_made w _ (Nat.le_refl _), (by repeat (first | exact Below.refl _ _ | (refine Below.alloc ?_ (by (try simp) <;> (try omega)) _) | (refine Below.setCell ?_ (by (try simp) <;> (try omega)) _) | (refine Below.drew ?_) | (refine Below.trans ?_ (Below.mono (by assumption) (by (try simp) <;> (try omega))))))⟩
  case round =>
    obtain ⟨f, A, av, cv, L, hA, hAf, hLA, rfl, rfl, hT, hf, hbel⟩ := hrel
    have HF := Lib.hid hf.here
    have HBW := Lib.hid hbel
    have hz := hbel.size
    clear hf hbel
    by_cases hAl : A < l0.length
    · obtain ⟨m, rfl⟩ : ∃ m, f = m + 1 := ⟨f - 1, by omega⟩
      have hAs : A < S.size := by omega
      have hAs2 : A ≤ S.size := by omega
      have hdl : (l0.drop A).length = l0.length - A := by simp
      have hd2 : ∀ k, (l0.drop A).drop k = l0.drop (A + k) := fun k => by rw [List.drop_drop]
      obtain ⟨l, hl⟩ : ∃ l, l = l0.drop A := ⟨_, rfl⟩
      rw [← hl] at hT hdl
      have hx0 : S.extract A (A + 3) = strOf (l.take 3) := by rw [HEX.out, hl]
      have hx3 : S.extract (A + 3) (A + 7) = strOf ((l.drop 3).take 4) := by
        have := HEX.out (A + 3) 4
        rw [hl, hd2, ← this]
      have hx7 : ∀ B, S.extract (A + 7) (A + 7 + B) = strOf ((l.drop 7).take B) := fun B => by rw [HEX.out, hl, hd2]
      have H0 := Lib.hid hx0
      have H3 := Lib.hid hx3
      have H7 := Lib.hid hx7
      have HDL := Lib.hid hdl
      have HL := Lib.hid hl
      clear hx0 hx3 hx7 hdl hd2 hl
      by_cases g1 : l0.length < A + 7
      · have g1' : S.size < A + 7 := by omega
        have g1'' : (S.size : Int) - (A : Int) < 7 := by omega
        have hr := frF_short (n := m) (l := l) (by rw [HDL.out]; omega) (by rw [HDL.out]; omega)
        have HR := Lib.hid (show frJ L A ([], 0, 14) = X by rw [← hr]; exact hT.out)
        clear hr
        go_wp2_with fail
        go_ret3
        exact FrsR.of HR.out HF.out.1 HBW.out
      have g1' : A + 7 ≤ S.size := by omega
      have g1'' : 7 ≤ (S.size : Int) - (A : Int) := by omega
      have g3' : A + 3 ≤ S.size := by omega
      have hxs : (S.extract A (A + 3)).size ≤ 5 := by rw [H0.out, strOf_size]; simp; omega
      have hxs4 : (S.extract (A + 3) (A + 7)).size ≤ 5 := by rw [H3.out, strOf_size]; simp; omega
      have HLn := Lib.hid (show 7 ≤ l.length by rw [HDL.out]; omega)
      have HE1 := fun h => Lib.hid (frF_long (n := m) (l := l) HLn.out h)
      have HE2 := fun h => Lib.hid (frF_cut (n := m) (l := l) HLn.out h)
      have HE3 := fun h => Lib.hid (frF_sum (n := m) (l := l) HLn.out h)
      have HE4 := fun h => Lib.hid (frF_ok (n := m) (l := l) HLn.out h)
      have HBN : Hid (∀ w, Calls Try.prog 93 #[.string (S.extract A (A + 3))] w fun e w' => e = .returned (.int .i64 (bn (l.take 3))) ∧ w = w') := Lib.hid (fun w => by
        have := l02Of_c (S.extract A (A + 3)) w hxs
        rw [H0.out, strOf_toList] at this
        rw [H0.out]
        exact this)
      have HAX : Hid (∀ B, S.extract A (A + 3) ++ strOf ((l.drop 7).take B) = strOf (l.take 3 ++ (l.drop 7).take B)) := Lib.hid (fun B => by rw [H0.out, strOf_append])
      have HCK : Hid (∀ w a c B, Sl byteE 1 w a (l.take 3 ++ (l.drop 7).take B) → Calls Try.prog 94 #[.slice a (l.take 3 ++ (l.drop 7).take B).length c] w fun e w' => e = .returned (.int .i64 (crc (l.take 3 ++ (l.drop 7).take B))) ∧ w = w') := Lib.hid (fun w a c B h => l01Check_c a c (l.take 3 ++ (l.drop 7).take B) w h (by have := HDL.out; simp; omega))
      generalize bn (l.take 3) = B at *
      have H1 := Lib.hid HE1
      have H2 := Lib.hid HE2
      have H3' := Lib.hid HE3
      have H4 := Lib.hid HE4
      clear HE1 HE2 HE3 HE4
      go_wp2_with fail
      refine (HBN.out _).mono ?_
      rintro e w2 ⟨rfl, rfl⟩
      by_cases g2 : B < 1 ∨ 65536 < B
      · have HR := Lib.hid (show frJ L A ([], 0, 8) = X by rw [← (H1.out g2).out]; exact hT.out)
        rcases Nat.lt_or_ge B 1 with h | h
        · have k1 : (B : Int) < 1 := by omega
          have k2 : decide ((B : Int) < 1) = true := by simp; omega
          have k3 : B = 0 := by omega
          clear g2
          subst k3
          go_wp2_with fail
          go_ret3
          exact FrsR.of HR.out HF.out.1 HBW.out
        · have k1 : (1 : Int) ≤ (B : Int) := by omega
          have k2 : (65536 : Int) < (B : Int) := by omega
          have k3 : 65536 < B := by omega
          have k4 : ¬ B = 0 := by omega
          clear g2
          go_wp2_with fail
          go_ret3
          exact FrsR.of HR.out HF.out.1 HBW.out
      have hB1 : 1 ≤ B := by omega
      have hB2 : B ≤ 65536 := by omega
      have k1 : (1 : Int) ≤ (B : Int) := by omega
      have k2 : (B : Int) ≤ 65536 := by omega
      have k4 : ¬ B = 0 := by omega
      clear g2
      by_cases g3 : l0.length < A + 7 + B
      · have g3' : (S.size : Int) - (A : Int) - 7 < (B : Int) := by omega
        have HR := Lib.hid (show frJ L A ([], 0, 14) = X by rw [← (H2.out ⟨hB1, hB2⟩).out (by rw [HDL.out]; omega)]; exact hT.out)
        go_wp2_with fail
        go_ret3
        exact FrsR.of HR.out HF.out.1 HBW.out
      have g3' : (B : Int) ≤ (S.size : Int) - (A : Int) - 7 := by omega
      have g3n : A + 7 + B ≤ S.size := by omega
      have g3l : 7 + B ≤ l.length := by rw [HDL.out]; omega
      obtain ⟨D, hD⟩ : ∃ D, D = strOf ((l.drop 7).take B) := ⟨_, rfl⟩
      have hD7 : S.extract (A + 7) (A + 7 + B) = D := by rw [H7.out, hD]
      have hDs : D.size = B := by rw [hD, strOf_size]; simp; omega
      have hDs1 : D.size ≤ 65536 := by omega
      obtain ⟨Y, hY⟩ : ∃ Y, Y = S.extract A (A + 3) ++ D := ⟨_, rfl⟩
      have hYl : Y = strOf (l.take 3 ++ (l.drop 7).take B) := by rw [hY, hD, HAX.out]
      have hcv : ∀ w, (convert 9 112 (.string Y)).run Try.prog w = .ok (.slice (some ⟨w.heap.size, 0, none⟩) Y.size (cvC Y w)) (cvW Y w) := fun w => cv_run Y w
      have HCK2 : Hid (∀ w w1 c, w1 = cvW Y w → Calls Try.prog 94 #[.slice (some ⟨w.heap.size, 0, none⟩) Y.size c] w1 fun e w' => e = .returned (.int .i64 (crc (l.take 3 ++ (l.drop 7).take B))) ∧ w1 = w') := Lib.hid (fun w w1 c h => by
        subst h
        have h1 := cvW_sl Y w
        rw [hYl] at h1 ⊢
        exact HCK.out _ _ c B h1)
      have HB4 : Hid (∀ w, Calls Try.prog 93 #[.string (S.extract (A + 3) (A + 7))] w fun e w' => e = .returned (.int .i64 (bn ((l.drop 3).take 4))) ∧ w = w') := Lib.hid (fun w => by
        have := l02Of_c (S.extract (A + 3) (A + 7)) w hxs4
        rw [H3.out, strOf_toList] at this
        rw [H3.out]
        exact this)
      have HD := Lib.hid hD
      have HDs := Lib.hid hDs
      have h5 := (H3'.out ⟨hB1, hB2⟩).out g3l
      have h6 := (H4.out ⟨hB1, hB2⟩).out g3l
      have hYe : S.extract A (A + 3) ++ D = Y := hY.symm
      clear hD hDs HCK HBN hYl hY HAX
      generalize crc (l.take 3 ++ (l.drop 7).take B) = CR at *
      generalize bn ((l.drop 3).take 4) = B4 at *
      by_cases g5 : B4 = CR
      · have HA2 := Lib.hid (h6 g5)
        have HG5 := Lib.hid g5
        have c1 : ((CR : Int) != (B4 : Int)) = false := by simp; omega
        have c2 : ((CR : Int) == (B4 : Int)) = true := by simp; omega
        have c3 : decide ((CR : Int) = (B4 : Int)) = true := by simp; omega
        have c4 : decide (CR = B4) = true := by simp; omega
        have c5 : (CR != B4) = false := by simp; omega
        have c6 : (CR == B4) = true := by simp; omega
        clear h5 h6 g5
        have hw3 : IntKind.i64.wrap ((A : Int) + 3) = (A : Int) + 3 := IntWalk.i64_in _ ⟨by omega, by omega⟩
        have hw7 : IntKind.i64.wrap ((A : Int) + 7) = (A : Int) + 7 := IntWalk.i64_in _ ⟨by omega, by omega⟩
        have ht3 : ((A : Int) + 3).toNat = A + 3 := by omega
        have ht7 : ((A : Int) + 7).toNat = A + 7 := by omega
        have hp3 : (0 : Int) ≤ (A : Int) + 3 := by omega
        have hp7 : (0 : Int) ≤ (A : Int) + 7 := by omega
        have hq3 : (A : Int) + 3 ≤ (S.size : Int) := by omega
        have hq7 : (A : Int) + 7 ≤ (S.size : Int) := by omega
        have hqA : (A : Int) ≤ (S.size : Int) := by omega
        have hcat : ¬ 9223372036854775807 < 3 + D.size := by omega
        have hqa3 : (A : Int) ≤ (A : Int) + 3 := by omega
        have hq37 : (A : Int) + 3 ≤ (A : Int) + 7 := by omega
        go_wp2_with fail
        go_region_with
          (first
            | (go_at_call 94; refine (HCK2.out wr.drew _ _ rfl).mono ?_; rintro e w5 ⟨rfl, rfl⟩)
            | (go_at_call 93; refine (HB4.out _).mono ?_; rintro e w5 ⟨rfl, rfl⟩))
        all_goals
          have HFq := Lib.hid (HF.out.below ((Below.refl _ _).drew.trans (cvW_below Y wr.drew (Nat.le_refl _))))
          have HBq : Hid (Below w.heap.size w (cvW Y wr.drew)) := HBW.out.drew.trans (cvW_below Y wr.drew (by simpa using hz))
          have hzq : wr.heap.size ≤ (cvW Y wr.drew).heap.size := (cvW_below Y wr.drew (Nat.le_refl _)).size
          generalize cvW Y wr.drew = wx at *
          go_wp2_with (first
            | (skip
               at_builtin
               refine wpList_append_fresh rfl (.tmp 71) (.tmp 73) 25 25 rfl (w.heap.size) (wr.heap.size) 9 i0 (.string ⟨#[]⟩) 1 16 Try.underlying25 hi hz0 hz1 hz2 rfl (by decide) (.slice av L.length cv) (L) rfl (HFq.out.alloc _) _ ([D]) rfl (Src.ofBox (enc := strE) (w := wx) Try.underlying25 (fun _ => rfl) strOne D #[.string D] 9 rfl wx.heap.size rfl) (by (try simp) <;> (try omega)) (by (try simp) <;> (try omega)) ?_
               intro a2 c2 w2 L2 hL2 hf2 hm2
               skip))
          go_roundw
          case rel =>
            have hdl := HDL.out
            refine ⟨m, A + (7 + B), a2, c2, L2, by omega, by omega, by rw [hL2.out]; simp; omega, by go_num, rfl, ?_, hf2.1, ?_⟩
            · show _ = _
              rw [← hT.out, HA2.out, hL2.out, ← HD.out]
              rw [HL.out, List.drop_drop]
              simp [frJ]
              omega
            · exact (HBq.out.alloc (by omega) _).trans (hm2.below (by omega) (by simp; omega))
          case measure => simp [intOf]; omega
      · have HR := Lib.hid (show frJ L A ([], 0, 8) = X by rw [← h5 g5]; exact hT.out)
        have c1 : ((CR : Int) != (B4 : Int)) = true := by simp; omega
        have c2 : ((CR : Int) == (B4 : Int)) = false := by simp; omega
        have c3 : decide ((CR : Int) = (B4 : Int)) = false := by simp; omega
        have c4 : decide (CR = B4) = false := by simp; omega
        have c5 : (CR != B4) = true := by simp; omega
        have c6 : (CR == B4) = false := by simp; omega
        clear h5 h6 g5
        have hw3 : IntKind.i64.wrap ((A : Int) + 3) = (A : Int) + 3 := IntWalk.i64_in _ ⟨by omega, by omega⟩
        have hw7 : IntKind.i64.wrap ((A : Int) + 7) = (A : Int) + 7 := IntWalk.i64_in _ ⟨by omega, by omega⟩
        have ht3 : ((A : Int) + 3).toNat = A + 3 := by omega
        have ht7 : ((A : Int) + 7).toNat = A + 7 := by omega
        have hp3 : (0 : Int) ≤ (A : Int) + 3 := by omega
        have hp7 : (0 : Int) ≤ (A : Int) + 7 := by omega
        have hq3 : (A : Int) + 3 ≤ (S.size : Int) := by omega
        have hq7 : (A : Int) + 7 ≤ (S.size : Int) := by omega
        have hqA : (A : Int) ≤ (S.size : Int) := by omega
        have hcat : ¬ 9223372036854775807 < 3 + D.size := by omega
        have hqa3 : (A : Int) ≤ (A : Int) + 3 := by omega
        have hq37 : (A : Int) + 3 ≤ (A : Int) + 7 := by omega
        go_wp2_with fail
        go_region_with
          (first
            | (go_at_call 94; refine (HCK2.out wr.drew _ _ rfl).mono ?_; rintro e w5 ⟨rfl, rfl⟩)
            | (go_at_call 93; refine (HB4.out _).mono ?_; rintro e w5 ⟨rfl, rfl⟩))
        all_goals
          go_wp2_with fail
          go_ret3
          exact FrsR.of HR.out (HF.out.below ((Below.refl _ _).drew.trans (cvW_below Y wr.drew (Nat.le_refl _)))).1 (HBW.out.drew.trans (cvW_below Y wr.drew (by simpa using hz)))
    · obtain rfl : A = l0.length := by omega
      have hAs : S.size ≤ l0.length := hsz1
      have hr : frF f (l0.drop l0.length) = ([], 0, 0) := by rw [List.drop_length, frF_nil]
      have HR := Lib.hid (show frJ L l0.length ([], 0, 0) = X by rw [← hr]; exact hT.out)
      clear hr
      go_wp2_with fail
      go_ret3
      exact FrsR.of HR.out HF.out.1 HBW.out
end
section
open Go.RowKit
/-- The records of a list, one by one, from a state on. -/
noncomputable def rcL : Int × Int × List Ent → List ByteArray → Option (Int × Int × List Ent)
  | s, [] => some s
  | s, r :: rs => match apV s.1 s.2.1 s.2.2 (rdAll r.data.toList) with
    | some x => rcL x rs
    | none => none
abbrev RvT := (Int × Int × List Ent) × (ByteArray × Int) × Int
noncomputable def rvX (d : ByteArray) (x : List ByteArray × Nat × Int) : RvT :=
  if x.2.2 = 8 then ((0, 0, []), (⟨#[]⟩, 0), 8) else
  match rcL (0, -1, []) x.1 with
  | none => ((0, 0, []), (⟨#[]⟩, 0), 3)
  | some st => (st, (d.extract 0 x.2.1, x.2.1), 0)
noncomputable def rvAll (d : ByteArray) : RvT := rvX d (frs d.data.toList)
def RvR (y : RvT) (w : World) (e : Ending) (w' : World) : Prop :=
  ∃ a ca, e = .returned (.tuple #[.agg #[.int .i64 y.1.1, .int .i64 y.1.2.1, .slice a y.1.2.2.length ca], .agg #[.string y.2.1.1, .int .i64 y.2.1.2], .int .i64 y.2.2]) ∧ Fresh entE 76 2 w.heap.size (.slice a y.1.2.2.length ca) y.1.2.2 w' ∧ Below w.heap.size w w'
def RvA (y : RvT) (w : World) (e : Ending) (w' : World) : Prop :=
  ∃ t v a ca L d' n', e = .returned (.tuple #[.agg #[.int .i64 t, .int .i64 v, .slice a (List.length L) ca], .agg #[.string d', .int .i64 n'], .int .i64 y.2.2]) ∧ (y.2.2 = 0 → y = ((t, v, L), (d', n'), 0) ∧ Fresh entE 76 2 w.heap.size (.slice a L.length ca) L w') ∧ Below w.heap.size w w'
theorem frF_facts : ∀ (n : Nat) (l : List UInt8), (∀ s ∈ (frF n l).1, s.size ≤ 65536) ∧ (frF n l).2.1 ≤ l.length ∧ (frF n l).1.length ≤ l.length
  | 0, l => by simp [frF]
  | n + 1, l => by
    unfold frF
    split
    · simp
    split
    · simp
    split
    · simp
    split
    · simp
    split
    · simp
    obtain ⟨h1, h2, h3⟩ := frF_facts n (l.drop (7 + bn (l.take 3)))
    refine ⟨fun s hs => ?_, ?_, ?_⟩
    · rcases List.mem_cons.1 hs with rfl | hs
      · rw [strOf_size]
        simp
        omega
      · exact h1 s hs
    · simp at h2 ⊢
      omega
    · simp at h3 ⊢
      omega
theorem rvX_sum (d : ByteArray) {F : List ByteArray} {n : Nat} {c : Int} (h : c = 8) : rvX d (F, n, c) = ((0, 0, []), (⟨#[]⟩, 0), 8) := by
  unfold rvX
  rw [if_pos h]
theorem rvX_bad (d : ByteArray) {F : List ByteArray} {n : Nat} {c : Int} (h : c ≠ 8) (hr : rcL (0, -1, []) F = none) : rvX d (F, n, c) = ((0, 0, []), (⟨#[]⟩, 0), 3) := by
  unfold rvX
  rw [if_neg h]
  simp only
  rw [hr]
theorem rvX_ok (d : ByteArray) {F : List ByteArray} {n : Nat} {c : Int} {st : Int × Int × List Ent} (h : c ≠ 8) (hr : rcL (0, -1, []) F = some st) : rvX d (F, n, c) = (st, (d.extract 0 n, (n : Int)), 0) := by
  unfold rvX
  rw [if_neg h]
  simp only
  rw [hr]
theorem rcL_nil (s : Int × Int × List Ent) : rcL s [] = some s := rfl
theorem rcL_some {s x : Int × Int × List Ent} {r : ByteArray} {rs : List ByteArray} (h : apV s.1 s.2.1 s.2.2 (rdAll r.data.toList) = some x) : rcL s (r :: rs) = rcL x rs := by
  simp only [rcL]
  rw [h]
theorem rcL_none {s : Int × Int × List Ent} {r : ByteArray} {rs : List ByteArray} (h : apV s.1 s.2.1 s.2.2 (rdAll r.data.toList) = none) : rcL s (r :: rs) = none := by
  simp only [rcL]
  rw [h]
theorem rcL_ok : ∀ (F : List ByteArray) (s x : Int × Int × List Ent), s.2.2.length ≤ 60 → rcL s F = some x → x.2.2.length ≤ 60
  | [], s, x, h, hr => by cases hr; exact h
  | r :: rs, s, x, h, hr => by
    cases ha : apV s.1 s.2.1 s.2.2 (rdAll r.data.toList) with
    | none => rw [rcL_none ha] at hr; cases hr
    | some y =>
      rw [rcL_some ha] at hr
      exact rcL_ok rs y x (stOK_facts (apV_ok ha)).2.2.2.2.1 hr
theorem rvX_length (d : ByteArray) (x : List ByteArray × Nat × Int) : (rvX d x).1.2.2.length ≤ 60 := by
  unfold rvX
  split
  · simp
  split
  · simp
  · next h => exact rcL_ok _ _ _ (by simp) h
theorem Fresh.drew {α : Type} {enc : α → List Value} {sz : Nat} {e : TypeId} {B : Nat} {v : Value} {xs : List α} {w : World} (h : Fresh enc e sz B v xs w) : Fresh enc e sz B v xs w.drew := h.below ((Below.refl _ _).drew)
theorem ownNe_alloc {α : Type} {enc : α → List Value} {sz : Nat} {e : TypeId} {v : Value} {xs : List α} {w wr : World} {o : Obj} (h : Fresh enc e sz ((wr.alloc o).drew).heap.size v xs w) : v.ownBlock ≠ some wr.heap.size := fun hk => by
  have h1 := (Fresh.lt h hk).1
  rw [World.size_drew, World.size_alloc] at h1
  omega
theorem Fresh.setNe {α : Type} {enc : α → List Value} {sz : Nat} {e : TypeId} {B : Nat} {v : Value} {xs : List α} {w : World} (h : Fresh enc e sz B v xs w) {b : Nat} (hne : v.ownBlock ≠ some b) (o : Nat) (u : Value) : Fresh enc e sz B v xs (w.setCell ⟨b, o, none⟩ u) :=
  h.kept (grown_setCell w b o u) (.inr hne)
end
section
open Go.RowKit
set_option maxRecDepth 100000 in
set_option maxHeartbeats 16000000 in
theorem implRecovered_c (d : ByteArray) (s : Int) (w : World) (hd : d.size ≤ 60000) :
    Calls Try.prog 73 #[.agg #[.string d, .int .i64 s]] w (RvR (rvAll d) w) := by
  obtain ⟨i0, hi, hz0, hz1, hz2⟩ := info_parts Try.infoEntry
  unfold rvAll
  have HFR : Hid (∀ w, Calls Try.prog 101 #[.string d] w (FrsR (frs d.data.toList) w)) := Lib.hid (fun w => readFrames_c d.data.toList w (by show d.size ≤ _; omega))
  obtain ⟨hfs, hfn, hfl⟩ := frF_facts d.data.toList.length d.data.toList
  obtain ⟨⟨F, n, cd⟩, hx⟩ : ∃ x, x = frs d.data.toList := ⟨_, rfl⟩
  rw [show frF d.data.toList.length d.data.toList = frs d.data.toList from rfl, ← hx] at hfs hfn hfl
  rw [← hx] at HFR ⊢
  have hn : n ≤ d.size := hfn
  have hFl : F.length ≤ 60000 := Nat.le_trans hfl hd
  have HFS := Lib.hid hfs
  clear hfs hfn hx hfl
  dsimp only at HFS HFR
  obtain ⟨Y, hY⟩ : ∃ Y, Y = rvX d (F, n, cd) := ⟨_, rfl⟩
  rw [← hY]
  have HY := Lib.hid hY
  clear hY
  go_enter Try.func73, Try.ntmps73
  go_wp2_with fail
  refine (HFR.out _).mono ?_
  rintro e w1 ⟨aF, cF, rfl, hfF, hb1⟩
  have hfF0 : FreshIn strE 9 1 (w.heap.size + 3) w1.heap.size (.slice aF F.length cF) F w1 := by simpa using hfF.here
  have hz1 := hb1.size
  simp only [World.size_alloc] at hz1
  have HB1 : Hid (Below w.heap.size w w1) := (by repeat (first | exact Below.refl _ _ | (refine Below.alloc ?_ (by (try simp) <;> (try omega)) _) | (refine Below.setCell ?_ (by (try simp) <;> (try omega)) _) | (refine Below.drew ?_) | (refine Below.trans ?_ (Below.mono (by assumption) (by (try simp) <;> (try omega))))))
  have HF1 := Lib.hid hfF0
  clear hfF hfF0
  dsimp only
  have q1_0_0 : w1.cell? ⟨w.heap.size, 0, none⟩ = some (.string d) := by
    rw [hb1.cell (p := ⟨w.heap.size, 0, none⟩) (show w.heap.size < _ by (try simp) <;> (try omega))]
    first | assumption | (simp [go_sem])
  have q1_0_1 : w1.cell? ⟨w.heap.size, 1, none⟩ = some (.int .i64 s) := by
    rw [hb1.cell (p := ⟨w.heap.size, 1, none⟩) (show w.heap.size < _ by (try simp) <;> (try omega))]
    first | assumption | (simp [go_sem])
  have q1_1_0 : w1.cell? ⟨w.heap.size + 1, 0, none⟩ = some (.int .i64 0) := by
    rw [hb1.cell (p := ⟨w.heap.size + 1, 0, none⟩) (show w.heap.size + 1 < _ by (try simp) <;> (try omega))]
    first | assumption | (simp [go_sem])
  have q1_1_1 : w1.cell? ⟨w.heap.size + 1, 1, none⟩ = some (.int .i64 0) := by
    rw [hb1.cell (p := ⟨w.heap.size + 1, 1, none⟩) (show w.heap.size + 1 < _ by (try simp) <;> (try omega))]
    first | assumption | (simp [go_sem])
  have q1_1_2 : w1.cell? ⟨w.heap.size + 1, 2, none⟩ = some (.slice none 0 0) := by
    rw [hb1.cell (p := ⟨w.heap.size + 1, 2, none⟩) (show w.heap.size + 1 < _ by (try simp) <;> (try omega))]
    first | assumption | (simp [go_sem])
  have q1_2_0 : w1.cell? ⟨w.heap.size + 1 + 1, 0, none⟩ = some (.string ⟨#[]⟩) := by
    rw [hb1.cell (p := ⟨w.heap.size + 1 + 1, 0, none⟩) (show w.heap.size + 1 + 1 < _ by (try simp) <;> (try omega))]
    first | assumption | (simp [go_sem])
  have q1_2_1 : w1.cell? ⟨w.heap.size + 1 + 1, 1, none⟩ = some (.int .i64 0) := by
    rw [hb1.cell (p := ⟨w.heap.size + 1 + 1, 1, none⟩) (show w.heap.size + 1 + 1 < _ by (try simp) <;> (try omega))]
    first | assumption | (simp [go_sem])
  have f1_1 : ∀ o, w1.frozen? ⟨w.heap.size + 1, o, none⟩ = false := fun o => by
    rw [hb1.frozen (p := ⟨w.heap.size + 1, o, none⟩) (show w.heap.size + 1 < _ by (try simp) <;> (try omega))]
    simp [go_sem]
  have f1_2 : ∀ o, w1.frozen? ⟨w.heap.size + 1 + 1, o, none⟩ = false := fun o => by
    rw [hb1.frozen (p := ⟨w.heap.size + 1 + 1, o, none⟩) (show w.heap.size + 1 + 1 < _ by (try simp) <;> (try omega))]
    simp [go_sem]
  clear hb1
  by_cases h8 : cd = 8
  · have hy8 := Lib.hid (HY.out.trans (rvX_sum d h8))
    subst h8
    go_wp2_with fail
    refine bodyPost_ret (v := .tuple #[.agg #[.int .i64 0, .int .i64 0, .slice none 0 0], .agg #[.string ⟨#[]⟩, .int .i64 0], .int .i64 8]) (by simp [results, Try.results73, go_sem, q1_1_0, q1_1_1, q1_1_2, q1_2_0, q1_2_1, f1_1, f1_2]) rfl ?_
    rw [hy8.out]
    refine ⟨none, 0, rfl, (FreshIn.nil _ _ _ _ 0 _).1, ?_⟩
    repeat (first | (with_reducible exact HB1.out) | (with_reducible refine Below.setCell ?_ ?_ _; rotate_left; ((try simp) <;> (try omega))) | (with_reducible refine Below.alloc ?_ ?_ _; rotate_left; ((try simp) <;> (try omega))) | (with_reducible refine Below.drew ?_) | (with_reducible refine Below.trans ?_ (below_drewN _ _ _)))
  have H8 := Lib.hid h8
  have h8b : decide (cd = 8) = false := by simpa using h8
  have h8c : (cd == 8) = false := by simpa using h8
  go_wp2_with fail
  go_loopw [27] (fun i wr => ∃ (k : Nat) (t1 v1 : Int) (a1 : Option Addr) (c1 : Nat) (L1 : List Ent), k ≤ F.length ∧ i = .int .i64 k ∧ Hid (rcL (t1, v1, L1) (F.drop k) = rcL (0, -1, []) F) ∧ L1.length ≤ 60 ∧ Hid (∀ e ∈ L1, e.2.size ≤ 65536) ∧ wr.cell? ⟨w1.heap.size, 0, none⟩ = some (.int .i64 t1) ∧ wr.cell? ⟨w1.heap.size, 1, none⟩ = some (.int .i64 v1) ∧ wr.cell? ⟨w1.heap.size, 2, none⟩ = some (.slice a1 L1.length c1) ∧ (∀ o, wr.frozen? ⟨w1.heap.size, o, none⟩ = false) ∧ wr.cell? ⟨w.heap.size, 0, none⟩ = some (.string d) ∧ wr.cell? ⟨w.heap.size, 1, none⟩ = some (.int .i64 s) ∧ wr.cell? ⟨w.heap.size + 1, 0, none⟩ = some (.int .i64 0) ∧ wr.cell? ⟨w.heap.size + 1, 1, none⟩ = some (.int .i64 0) ∧ wr.cell? ⟨w.heap.size + 1, 2, none⟩ = some (.slice none 0 0) ∧ wr.cell? ⟨w.heap.size + 1 + 1, 0, none⟩ = some (.string ⟨#[]⟩) ∧ wr.cell? ⟨w.heap.size + 1 + 1, 1, none⟩ = some (.int .i64 0) ∧ (∀ o, wr.frozen? ⟨w.heap.size + 1, o, none⟩ = false) ∧ (∀ o, wr.frozen? ⟨w.heap.size + 1 + 1, o, none⟩ = false) ∧ Fresh entE 76 2 (w.heap.size + 3) (.slice a1 L1.length c1) L1 wr ∧ (Value.slice a1 L1.length c1).ownBlock ≠ some w1.heap.size ∧ FreshIn strE 9 1 (w.heap.size + 3) w1.heap.size (.slice aF F.length cF) F wr ∧ Below w.heap.size w wr ∧ w1.heap.size < wr.heap.size) (fun i _ => F.length - (intOf i).toNat)
  case atStart =>
    refine ⟨0, 0, -1, none, 0, [], Nat.zero_le _, rfl, (by show _ = _; rw [List.drop_zero]), by simp, (fun e he => by cases he), by simp [go_sem], by simp [go_sem], by simp [go_sem], fun o => by simp [go_sem], (by rw [World.cell?_alloc_lt _ _ _ (by show w.heap.size < _; (try simp) <;> (try omega))]; exact q1_0_0), (by rw [World.cell?_alloc_lt _ _ _ (by show w.heap.size < _; (try simp) <;> (try omega))]; exact q1_0_1), (by rw [World.cell?_alloc_lt _ _ _ (by show w.heap.size + 1 < _; (try simp) <;> (try omega))]; exact q1_1_0), (by rw [World.cell?_alloc_lt _ _ _ (by show w.heap.size + 1 < _; (try simp) <;> (try omega))]; exact q1_1_1), (by rw [World.cell?_alloc_lt _ _ _ (by show w.heap.size + 1 < _; (try simp) <;> (try omega))]; exact q1_1_2), (by rw [World.cell?_alloc_lt _ _ _ (by show w.heap.size + 1 + 1 < _; (try simp) <;> (try omega))]; exact q1_2_0), (by rw [World.cell?_alloc_lt _ _ _ (by show w.heap.size + 1 + 1 < _; (try simp) <;> (try omega))]; exact q1_2_1), (fun o => by rw [((Below.refl _ _).alloc (Nat.le_refl _) _ : Below _ _ _).frozen (p := ⟨w.heap.size + 1, o, none⟩) (by show w.heap.size + 1 < _; (try simp) <;> (try omega))]; exact f1_1 o), (fun o => by rw [((Below.refl _ _).alloc (Nat.le_refl _) _ : Below _ _ _).frozen (p := ⟨w.heap.size + 1 + 1, o, none⟩) (by show w.heap.size + 1 + 1 < _; (try simp) <;> (try omega))]; exact f1_2 o), (FreshIn.nil _ _ _ _ 0 _).1, (by simp [Value.ownBlock]), HF1.out.alloc _, ?_, by simp⟩
    repeat (first | (with_reducible exact HB1.out) | (with_reducible refine Below.setCell ?_ ?_ _; rotate_left; ((try simp) <;> (try omega))) | (with_reducible refine Below.alloc ?_ ?_ _; rotate_left; ((try simp) <;> (try omega))) | (with_reducible refine Below.drew ?_) | (with_reducible refine Below.trans ?_ (below_drewN _ _ _)))
  case round =>
    obtain ⟨k, t1, v1, a1, c1, L1, hk, rfl, hT, hL60, hLs, s_0, s_1, s_2, sf, q_0_0, q_0_1, q_1_0, q_1_1, q_1_2, q_2_0, q_2_1, f_1, f_2, hf, hne, hFF, hbel, hBw⟩ := hrel
    have HL := Lib.hid hf
    have HFF := Lib.hid hFF
    have HBW := Lib.hid hbel
    have HNE := Lib.hid hne
    have hz := hbel.size
    have hzw1 : w.heap.size + 3 ≤ w1.heap.size := by omega
    clear hf hFF hbel hne
    have hne1 : ¬ w1.heap.size = w.heap.size := by omega
    have hne2 : ¬ w1.heap.size = w.heap.size + 1 := by omega
    have hne3 : ¬ w1.heap.size = w.heap.size + 1 + 1 := by omega
    have hne4 : ¬ w.heap.size = w1.heap.size := by omega
    have hne5 : ¬ w.heap.size + 1 = w1.heap.size := by omega
    have hne6 : ¬ w.heap.size + 1 + 1 = w1.heap.size := by omega
    by_cases hlt : k < F.length
    · obtain ⟨bF, oF, rfl, hbF, hcF⟩ := (HFF.out.sl (enc := strE) (sz := 1) (fun _ => rfl)).at hlt
      have hbF1 := HFF.out.2 bF rfl
      have c1' := hcF k hlt 0 (by omega)
      simp only [strE, Nat.mul_one, Nat.add_zero, List.getElem?_cons_zero] at c1'
      have hrs := HFS.out F[k] (List.getElem_mem hlt)
      have HDR := Lib.hid (List.drop_eq_getElem_cons hlt)
      have hi0 : (0 : Int) ≤ (k : Int) := by omega
      have hi1 : (k : Int) < (F.length : Int) := by omega
      clear hcF
      generalize F[k] = r at *
      have HSL := Lib.hid (HL.out.sl (enc := entE) (fun _ => rfl))
      have HAP : Hid (∀ w', Below wr.heap.size wr w' → Calls Try.prog 102 #[.agg #[.int .i64 t1, .int .i64 v1, .slice a1 L1.length c1], .string r] w' (AppR (apV t1 v1 L1 (rdAll r.data.toList)) w')) := Lib.hid (fun w' h => implApplied_c a1 c1 L1 t1 v1 r.data.toList w' (HSL.out.keep h) hL60 hLs.out (by show r.size ≤ _; exact hrs))
      cases hap : apV t1 v1 L1 (rdAll r.data.toList)
      case none =>
        have HAPE := Lib.hid hap
        clear hap
        go_wp2_with fail
        refine (HAP.out _ (Below.refl _ _)).mono ?_
        rw [HAPE.out]
        rintro e w2 ⟨t2, v2, a2, c2, L2, rfl, hx2, hb2⟩
        clear hx2
        have hz2 := hb2.size
        try simp only [World.size_drew] at hz2
        have HB2 : Hid (Below w.heap.size w w2) := HBW.out.trans (hb2.mono (by (try simp) <;> (try omega)))
        have nq_0_0 : w2.cell? ⟨w.heap.size, 0, none⟩ = some (.string d) := by
          rw [hb2.cell (p := ⟨w.heap.size, 0, none⟩) (show w.heap.size < _ by (try simp) <;> (try omega))]
          first | exact q_0_0 | (simp [go_sem, q_0_0])
        have nq_0_1 : w2.cell? ⟨w.heap.size, 1, none⟩ = some (.int .i64 s) := by
          rw [hb2.cell (p := ⟨w.heap.size, 1, none⟩) (show w.heap.size < _ by (try simp) <;> (try omega))]
          first | exact q_0_1 | (simp [go_sem, q_0_1])
        have nq_1_0 : w2.cell? ⟨w.heap.size + 1, 0, none⟩ = some (.int .i64 0) := by
          rw [hb2.cell (p := ⟨w.heap.size + 1, 0, none⟩) (show w.heap.size + 1 < _ by (try simp) <;> (try omega))]
          first | exact q_1_0 | (simp [go_sem, q_1_0])
        have nq_1_1 : w2.cell? ⟨w.heap.size + 1, 1, none⟩ = some (.int .i64 0) := by
          rw [hb2.cell (p := ⟨w.heap.size + 1, 1, none⟩) (show w.heap.size + 1 < _ by (try simp) <;> (try omega))]
          first | exact q_1_1 | (simp [go_sem, q_1_1])
        have nq_1_2 : w2.cell? ⟨w.heap.size + 1, 2, none⟩ = some (.slice none 0 0) := by
          rw [hb2.cell (p := ⟨w.heap.size + 1, 2, none⟩) (show w.heap.size + 1 < _ by (try simp) <;> (try omega))]
          first | exact q_1_2 | (simp [go_sem, q_1_2])
        have nq_2_0 : w2.cell? ⟨w.heap.size + 1 + 1, 0, none⟩ = some (.string ⟨#[]⟩) := by
          rw [hb2.cell (p := ⟨w.heap.size + 1 + 1, 0, none⟩) (show w.heap.size + 1 + 1 < _ by (try simp) <;> (try omega))]
          first | exact q_2_0 | (simp [go_sem, q_2_0])
        have nq_2_1 : w2.cell? ⟨w.heap.size + 1 + 1, 1, none⟩ = some (.int .i64 0) := by
          rw [hb2.cell (p := ⟨w.heap.size + 1 + 1, 1, none⟩) (show w.heap.size + 1 + 1 < _ by (try simp) <;> (try omega))]
          first | exact q_2_1 | (simp [go_sem, q_2_1])
        have ns_0 : w2.cell? ⟨w1.heap.size, 0, none⟩ = some (.int .i64 t1) := by
          rw [hb2.cell (p := ⟨w1.heap.size, 0, none⟩) (show w1.heap.size < _ by (try simp) <;> (try omega))]
          first | exact s_0 | (simp [go_sem, s_0])
        have ns_1 : w2.cell? ⟨w1.heap.size, 1, none⟩ = some (.int .i64 v1) := by
          rw [hb2.cell (p := ⟨w1.heap.size, 1, none⟩) (show w1.heap.size < _ by (try simp) <;> (try omega))]
          first | exact s_1 | (simp [go_sem, s_1])
        have ns_2 : w2.cell? ⟨w1.heap.size, 2, none⟩ = some (.slice a1 L1.length c1) := by
          rw [hb2.cell (p := ⟨w1.heap.size, 2, none⟩) (show w1.heap.size < _ by (try simp) <;> (try omega))]
          first | exact s_2 | (simp [go_sem, s_2])
        have nf_1 : ∀ o, w2.frozen? ⟨w.heap.size + 1, o, none⟩ = false := fun o => by
          rw [hb2.frozen (p := ⟨w.heap.size + 1, o, none⟩) (show w.heap.size + 1 < _ by (try simp) <;> (try omega))]
          first | exact f_1 o | (simp [go_sem, f_1])
        have nf_2 : ∀ o, w2.frozen? ⟨w.heap.size + 1 + 1, o, none⟩ = false := fun o => by
          rw [hb2.frozen (p := ⟨w.heap.size + 1 + 1, o, none⟩) (show w.heap.size + 1 + 1 < _ by (try simp) <;> (try omega))]
          first | exact f_2 o | (simp [go_sem, f_2])
        have nsf : ∀ o, w2.frozen? ⟨w1.heap.size, o, none⟩ = false := fun o => by
          rw [hb2.frozen (p := ⟨w1.heap.size, o, none⟩) (show w1.heap.size < _ by (try simp) <;> (try omega))]
          first | exact sf o | (simp [go_sem, sf])
        have hw2s : w.heap.size + 1 + 1 < w2.heap.size := by omega
        have hw2b : w1.heap.size < w2.heap.size := by omega
        have hw2c : w.heap.size + 1 < w2.heap.size := by omega
        have hw2d : w.heap.size < w2.heap.size := by omega
        have hw2F : bF < w2.heap.size := by omega
        have mq_0_0 : ∀ x, (w2.alloc x).cell? ⟨w.heap.size, 0, none⟩ = some (.string d) := fun x => by
          rw [World.cell?_alloc_lt _ _ _ (by show w.heap.size < _; omega)]
          exact nq_0_0
        have mq_0_1 : ∀ x, (w2.alloc x).cell? ⟨w.heap.size, 1, none⟩ = some (.int .i64 s) := fun x => by
          rw [World.cell?_alloc_lt _ _ _ (by show w.heap.size < _; omega)]
          exact nq_0_1
        have mq_1_0 : ∀ x, (w2.alloc x).cell? ⟨w.heap.size + 1, 0, none⟩ = some (.int .i64 0) := fun x => by
          rw [World.cell?_alloc_lt _ _ _ (by show w.heap.size + 1 < _; omega)]
          exact nq_1_0
        have mq_1_1 : ∀ x, (w2.alloc x).cell? ⟨w.heap.size + 1, 1, none⟩ = some (.int .i64 0) := fun x => by
          rw [World.cell?_alloc_lt _ _ _ (by show w.heap.size + 1 < _; omega)]
          exact nq_1_1
        have mq_1_2 : ∀ x, (w2.alloc x).cell? ⟨w.heap.size + 1, 2, none⟩ = some (.slice none 0 0) := fun x => by
          rw [World.cell?_alloc_lt _ _ _ (by show w.heap.size + 1 < _; omega)]
          exact nq_1_2
        have mq_2_0 : ∀ x, (w2.alloc x).cell? ⟨w.heap.size + 1 + 1, 0, none⟩ = some (.string ⟨#[]⟩) := fun x => by
          rw [World.cell?_alloc_lt _ _ _ (by show w.heap.size + 1 + 1 < _; omega)]
          exact nq_2_0
        have mq_2_1 : ∀ x, (w2.alloc x).cell? ⟨w.heap.size + 1 + 1, 1, none⟩ = some (.int .i64 0) := fun x => by
          rw [World.cell?_alloc_lt _ _ _ (by show w.heap.size + 1 + 1 < _; omega)]
          exact nq_2_1
        have ms_0 : ∀ x, (w2.alloc x).cell? ⟨w1.heap.size, 0, none⟩ = some (.int .i64 t1) := fun x => by
          rw [World.cell?_alloc_lt _ _ _ (by show w1.heap.size < _; omega)]
          exact ns_0
        have ms_1 : ∀ x, (w2.alloc x).cell? ⟨w1.heap.size, 1, none⟩ = some (.int .i64 v1) := fun x => by
          rw [World.cell?_alloc_lt _ _ _ (by show w1.heap.size < _; omega)]
          exact ns_1
        have ms_2 : ∀ x, (w2.alloc x).cell? ⟨w1.heap.size, 2, none⟩ = some (.slice a1 L1.length c1) := fun x => by
          rw [World.cell?_alloc_lt _ _ _ (by show w1.heap.size < _; omega)]
          exact ns_2
        have mf_1 : ∀ x o, (w2.alloc x).frozen? ⟨w.heap.size + 1, o, none⟩ = false := fun x o => by
          rw [((Below.refl _ _).alloc (Nat.le_refl _) _ : Below _ _ _).frozen (p := ⟨w.heap.size + 1, o, none⟩) (by show w.heap.size + 1 < _; omega)]
          exact nf_1 o
        have mf_2 : ∀ x o, (w2.alloc x).frozen? ⟨w.heap.size + 1 + 1, o, none⟩ = false := fun x o => by
          rw [((Below.refl _ _).alloc (Nat.le_refl _) _ : Below _ _ _).frozen (p := ⟨w.heap.size + 1 + 1, o, none⟩) (by show w.heap.size + 1 + 1 < _; omega)]
          exact nf_2 o
        have msf : ∀ x o, (w2.alloc x).frozen? ⟨w1.heap.size, o, none⟩ = false := fun x o => by
          rw [((Below.refl _ _).alloc (Nat.le_refl _) _ : Below _ _ _).frozen (p := ⟨w1.heap.size, o, none⟩) (by show w1.heap.size < _; omega)]
          exact nsf o
        clear hb2
        have hy3 := Lib.hid (HY.out.trans (rvX_bad d H8.out (by rw [← hT.out, HDR.out, rcL_none HAPE.out])))
        go_wp2_with fail
        refine bodyPost_ret (v := .tuple #[.agg #[.int .i64 0, .int .i64 0, .slice none 0 0], .agg #[.string ⟨#[]⟩, .int .i64 0], .int .i64 3]) (by simp [results, Try.results73, go_sem, mq_1_0, mq_1_1, mq_1_2, mq_2_0, mq_2_1, mf_1, mf_2, nq_1_0, nq_1_1, nq_1_2, nq_2_0, nq_2_1, nf_1, nf_2, hw2s, hw2c]) rfl ?_
        rw [hy3.out]
        refine ⟨none, 0, rfl, (FreshIn.nil _ _ _ _ 0 _).1, ?_⟩
        repeat (first | (with_reducible exact HB2.out) | (with_reducible refine Below.setCell ?_ ?_ _; rotate_left; ((try simp) <;> (try omega))) | (with_reducible refine Below.alloc ?_ ?_ _; rotate_left; ((try simp) <;> (try omega))) | (with_reducible refine Below.drew ?_) | (with_reducible refine Below.trans ?_ (below_drewN _ _ _)))
      case some x =>
        obtain ⟨t9, v9, L9⟩ := x
        have hok := stOK_facts (apV_ok hap)
        have hl9 : L9.length ≤ 60 := hok.2.2.2.2.1
        have HS9 : Hid (∀ e ∈ L9, e.2.size ≤ 65536) := Lib.hid fun e he => by have := hok.2.2.2.2.2 e he; omega
        clear hok
        have HAPE := Lib.hid hap
        clear hap
        go_wp2_with fail
        refine (HAP.out _ (Below.refl _ _)).mono ?_
        rw [HAPE.out]
        rintro e w2 ⟨t2, v2, a2, c2, L2, rfl, hx2, hb2⟩
        obtain ⟨hx3, hf2⟩ := hx2 _ rfl
        cases hx3
        clear hx2
        have hz2 := hb2.size
        try simp only [World.size_drew] at hz2
        have HB2 : Hid (Below w.heap.size w w2) := HBW.out.trans (hb2.mono (by (try simp) <;> (try omega)))
        have nq_0_0 : w2.cell? ⟨w.heap.size, 0, none⟩ = some (.string d) := by
          rw [hb2.cell (p := ⟨w.heap.size, 0, none⟩) (show w.heap.size < _ by (try simp) <;> (try omega))]
          first | exact q_0_0 | (simp [go_sem, q_0_0])
        have nq_0_1 : w2.cell? ⟨w.heap.size, 1, none⟩ = some (.int .i64 s) := by
          rw [hb2.cell (p := ⟨w.heap.size, 1, none⟩) (show w.heap.size < _ by (try simp) <;> (try omega))]
          first | exact q_0_1 | (simp [go_sem, q_0_1])
        have nq_1_0 : w2.cell? ⟨w.heap.size + 1, 0, none⟩ = some (.int .i64 0) := by
          rw [hb2.cell (p := ⟨w.heap.size + 1, 0, none⟩) (show w.heap.size + 1 < _ by (try simp) <;> (try omega))]
          first | exact q_1_0 | (simp [go_sem, q_1_0])
        have nq_1_1 : w2.cell? ⟨w.heap.size + 1, 1, none⟩ = some (.int .i64 0) := by
          rw [hb2.cell (p := ⟨w.heap.size + 1, 1, none⟩) (show w.heap.size + 1 < _ by (try simp) <;> (try omega))]
          first | exact q_1_1 | (simp [go_sem, q_1_1])
        have nq_1_2 : w2.cell? ⟨w.heap.size + 1, 2, none⟩ = some (.slice none 0 0) := by
          rw [hb2.cell (p := ⟨w.heap.size + 1, 2, none⟩) (show w.heap.size + 1 < _ by (try simp) <;> (try omega))]
          first | exact q_1_2 | (simp [go_sem, q_1_2])
        have nq_2_0 : w2.cell? ⟨w.heap.size + 1 + 1, 0, none⟩ = some (.string ⟨#[]⟩) := by
          rw [hb2.cell (p := ⟨w.heap.size + 1 + 1, 0, none⟩) (show w.heap.size + 1 + 1 < _ by (try simp) <;> (try omega))]
          first | exact q_2_0 | (simp [go_sem, q_2_0])
        have nq_2_1 : w2.cell? ⟨w.heap.size + 1 + 1, 1, none⟩ = some (.int .i64 0) := by
          rw [hb2.cell (p := ⟨w.heap.size + 1 + 1, 1, none⟩) (show w.heap.size + 1 + 1 < _ by (try simp) <;> (try omega))]
          first | exact q_2_1 | (simp [go_sem, q_2_1])
        have ns_0 : w2.cell? ⟨w1.heap.size, 0, none⟩ = some (.int .i64 t1) := by
          rw [hb2.cell (p := ⟨w1.heap.size, 0, none⟩) (show w1.heap.size < _ by (try simp) <;> (try omega))]
          first | exact s_0 | (simp [go_sem, s_0])
        have ns_1 : w2.cell? ⟨w1.heap.size, 1, none⟩ = some (.int .i64 v1) := by
          rw [hb2.cell (p := ⟨w1.heap.size, 1, none⟩) (show w1.heap.size < _ by (try simp) <;> (try omega))]
          first | exact s_1 | (simp [go_sem, s_1])
        have ns_2 : w2.cell? ⟨w1.heap.size, 2, none⟩ = some (.slice a1 L1.length c1) := by
          rw [hb2.cell (p := ⟨w1.heap.size, 2, none⟩) (show w1.heap.size < _ by (try simp) <;> (try omega))]
          first | exact s_2 | (simp [go_sem, s_2])
        have nf_1 : ∀ o, w2.frozen? ⟨w.heap.size + 1, o, none⟩ = false := fun o => by
          rw [hb2.frozen (p := ⟨w.heap.size + 1, o, none⟩) (show w.heap.size + 1 < _ by (try simp) <;> (try omega))]
          first | exact f_1 o | (simp [go_sem, f_1])
        have nf_2 : ∀ o, w2.frozen? ⟨w.heap.size + 1 + 1, o, none⟩ = false := fun o => by
          rw [hb2.frozen (p := ⟨w.heap.size + 1 + 1, o, none⟩) (show w.heap.size + 1 + 1 < _ by (try simp) <;> (try omega))]
          first | exact f_2 o | (simp [go_sem, f_2])
        have nsf : ∀ o, w2.frozen? ⟨w1.heap.size, o, none⟩ = false := fun o => by
          rw [hb2.frozen (p := ⟨w1.heap.size, o, none⟩) (show w1.heap.size < _ by (try simp) <;> (try omega))]
          first | exact sf o | (simp [go_sem, sf])
        have hw2s : w.heap.size + 1 + 1 < w2.heap.size := by omega
        have hw2b : w1.heap.size < w2.heap.size := by omega
        have hw2c : w.heap.size + 1 < w2.heap.size := by omega
        have hw2d : w.heap.size < w2.heap.size := by omega
        have hw2F : bF < w2.heap.size := by omega
        have mq_0_0 : ∀ x, (w2.alloc x).cell? ⟨w.heap.size, 0, none⟩ = some (.string d) := fun x => by
          rw [World.cell?_alloc_lt _ _ _ (by show w.heap.size < _; omega)]
          exact nq_0_0
        have mq_0_1 : ∀ x, (w2.alloc x).cell? ⟨w.heap.size, 1, none⟩ = some (.int .i64 s) := fun x => by
          rw [World.cell?_alloc_lt _ _ _ (by show w.heap.size < _; omega)]
          exact nq_0_1
        have mq_1_0 : ∀ x, (w2.alloc x).cell? ⟨w.heap.size + 1, 0, none⟩ = some (.int .i64 0) := fun x => by
          rw [World.cell?_alloc_lt _ _ _ (by show w.heap.size + 1 < _; omega)]
          exact nq_1_0
        have mq_1_1 : ∀ x, (w2.alloc x).cell? ⟨w.heap.size + 1, 1, none⟩ = some (.int .i64 0) := fun x => by
          rw [World.cell?_alloc_lt _ _ _ (by show w.heap.size + 1 < _; omega)]
          exact nq_1_1
        have mq_1_2 : ∀ x, (w2.alloc x).cell? ⟨w.heap.size + 1, 2, none⟩ = some (.slice none 0 0) := fun x => by
          rw [World.cell?_alloc_lt _ _ _ (by show w.heap.size + 1 < _; omega)]
          exact nq_1_2
        have mq_2_0 : ∀ x, (w2.alloc x).cell? ⟨w.heap.size + 1 + 1, 0, none⟩ = some (.string ⟨#[]⟩) := fun x => by
          rw [World.cell?_alloc_lt _ _ _ (by show w.heap.size + 1 + 1 < _; omega)]
          exact nq_2_0
        have mq_2_1 : ∀ x, (w2.alloc x).cell? ⟨w.heap.size + 1 + 1, 1, none⟩ = some (.int .i64 0) := fun x => by
          rw [World.cell?_alloc_lt _ _ _ (by show w.heap.size + 1 + 1 < _; omega)]
          exact nq_2_1
        have ms_0 : ∀ x, (w2.alloc x).cell? ⟨w1.heap.size, 0, none⟩ = some (.int .i64 t1) := fun x => by
          rw [World.cell?_alloc_lt _ _ _ (by show w1.heap.size < _; omega)]
          exact ns_0
        have ms_1 : ∀ x, (w2.alloc x).cell? ⟨w1.heap.size, 1, none⟩ = some (.int .i64 v1) := fun x => by
          rw [World.cell?_alloc_lt _ _ _ (by show w1.heap.size < _; omega)]
          exact ns_1
        have ms_2 : ∀ x, (w2.alloc x).cell? ⟨w1.heap.size, 2, none⟩ = some (.slice a1 L1.length c1) := fun x => by
          rw [World.cell?_alloc_lt _ _ _ (by show w1.heap.size < _; omega)]
          exact ns_2
        have mf_1 : ∀ x o, (w2.alloc x).frozen? ⟨w.heap.size + 1, o, none⟩ = false := fun x o => by
          rw [((Below.refl _ _).alloc (Nat.le_refl _) _ : Below _ _ _).frozen (p := ⟨w.heap.size + 1, o, none⟩) (by show w.heap.size + 1 < _; omega)]
          exact nf_1 o
        have mf_2 : ∀ x o, (w2.alloc x).frozen? ⟨w.heap.size + 1 + 1, o, none⟩ = false := fun x o => by
          rw [((Below.refl _ _).alloc (Nat.le_refl _) _ : Below _ _ _).frozen (p := ⟨w.heap.size + 1 + 1, o, none⟩) (by show w.heap.size + 1 + 1 < _; omega)]
          exact nf_2 o
        have msf : ∀ x o, (w2.alloc x).frozen? ⟨w1.heap.size, o, none⟩ = false := fun x o => by
          rw [((Below.refl _ _).alloc (Nat.le_refl _) _ : Below _ _ _).frozen (p := ⟨w1.heap.size, o, none⟩) (by show w1.heap.size < _; omega)]
          exact nsf o
        have HF2 := Lib.hid (HFF.out.below hb2)
        have HL2 : Hid (Fresh entE 76 2 wr.heap.size (.slice a2 L9.length c2) L9 w2) := Lib.hid (by simpa using hf2)
        clear hb2 hf2
        have hT9 : Hid (rcL (t9, v9, L9) (F.drop (k + 1)) = rcL (0, -1, []) F) := by
          show _ = _
          rw [← hT.out, HDR.out, rcL_some HAPE.out]
        all_goals
          go_wp2_with fail
          go_roundw
          case rel =>
            have hN9 : (Value.slice a2 L9.length c2).ownBlock ≠ some w1.heap.size := fun h => by
              have := (HL2.out.lt h).1
              omega
            refine ⟨k + 1, t9, v9, a2, c2, L9, by omega, by go_num, hT9, hl9, HS9, ?_, ?_, ?_, ?_, ?_, ?_, ?_, ?_, ?_, ?_, ?_, ?_, ?_, ?_, hN9, ?_, ?_, ?_⟩
            · simp [go_sem, mq_0_0, mq_0_1, mq_1_0, mq_1_1, mq_1_2, mq_2_0, mq_2_1, ms_0, ms_1, ms_2, mf_1, mf_2, msf, nq_0_0, nq_0_1, nq_1_0, nq_1_1, nq_1_2, nq_2_0, nq_2_1, ns_0, ns_1, ns_2, nf_1, nf_2, nsf, hw2b, hw2s, hw2c, hw2d, hne1, hne2, hne3, hne4, hne5, hne6]
            · simp [go_sem, mq_0_0, mq_0_1, mq_1_0, mq_1_1, mq_1_2, mq_2_0, mq_2_1, ms_0, ms_1, ms_2, mf_1, mf_2, msf, nq_0_0, nq_0_1, nq_1_0, nq_1_1, nq_1_2, nq_2_0, nq_2_1, ns_0, ns_1, ns_2, nf_1, nf_2, nsf, hw2b, hw2s, hw2c, hw2d, hne1, hne2, hne3, hne4, hne5, hne6]
            · simp [go_sem, mq_0_0, mq_0_1, mq_1_0, mq_1_1, mq_1_2, mq_2_0, mq_2_1, ms_0, ms_1, ms_2, mf_1, mf_2, msf, nq_0_0, nq_0_1, nq_1_0, nq_1_1, nq_1_2, nq_2_0, nq_2_1, ns_0, ns_1, ns_2, nf_1, nf_2, nsf, hw2b, hw2s, hw2c, hw2d, hne1, hne2, hne3, hne4, hne5, hne6]
            · intro o
              simp [go_sem, mq_0_0, mq_0_1, mq_1_0, mq_1_1, mq_1_2, mq_2_0, mq_2_1, ms_0, ms_1, ms_2, mf_1, mf_2, msf, nq_0_0, nq_0_1, nq_1_0, nq_1_1, nq_1_2, nq_2_0, nq_2_1, ns_0, ns_1, ns_2, nf_1, nf_2, nsf, hw2b, hw2s, hw2c, hw2d, hne1, hne2, hne3, hne4, hne5, hne6]
            · simp [go_sem, mq_0_0, mq_0_1, mq_1_0, mq_1_1, mq_1_2, mq_2_0, mq_2_1, ms_0, ms_1, ms_2, mf_1, mf_2, msf, nq_0_0, nq_0_1, nq_1_0, nq_1_1, nq_1_2, nq_2_0, nq_2_1, ns_0, ns_1, ns_2, nf_1, nf_2, nsf, hw2b, hw2s, hw2c, hw2d, hne1, hne2, hne3, hne4, hne5, hne6]
            · simp [go_sem, mq_0_0, mq_0_1, mq_1_0, mq_1_1, mq_1_2, mq_2_0, mq_2_1, ms_0, ms_1, ms_2, mf_1, mf_2, msf, nq_0_0, nq_0_1, nq_1_0, nq_1_1, nq_1_2, nq_2_0, nq_2_1, ns_0, ns_1, ns_2, nf_1, nf_2, nsf, hw2b, hw2s, hw2c, hw2d, hne1, hne2, hne3, hne4, hne5, hne6]
            · simp [go_sem, mq_0_0, mq_0_1, mq_1_0, mq_1_1, mq_1_2, mq_2_0, mq_2_1, ms_0, ms_1, ms_2, mf_1, mf_2, msf, nq_0_0, nq_0_1, nq_1_0, nq_1_1, nq_1_2, nq_2_0, nq_2_1, ns_0, ns_1, ns_2, nf_1, nf_2, nsf, hw2b, hw2s, hw2c, hw2d, hne1, hne2, hne3, hne4, hne5, hne6]
            · simp [go_sem, mq_0_0, mq_0_1, mq_1_0, mq_1_1, mq_1_2, mq_2_0, mq_2_1, ms_0, ms_1, ms_2, mf_1, mf_2, msf, nq_0_0, nq_0_1, nq_1_0, nq_1_1, nq_1_2, nq_2_0, nq_2_1, ns_0, ns_1, ns_2, nf_1, nf_2, nsf, hw2b, hw2s, hw2c, hw2d, hne1, hne2, hne3, hne4, hne5, hne6]
            · simp [go_sem, mq_0_0, mq_0_1, mq_1_0, mq_1_1, mq_1_2, mq_2_0, mq_2_1, ms_0, ms_1, ms_2, mf_1, mf_2, msf, nq_0_0, nq_0_1, nq_1_0, nq_1_1, nq_1_2, nq_2_0, nq_2_1, ns_0, ns_1, ns_2, nf_1, nf_2, nsf, hw2b, hw2s, hw2c, hw2d, hne1, hne2, hne3, hne4, hne5, hne6]
            · simp [go_sem, mq_0_0, mq_0_1, mq_1_0, mq_1_1, mq_1_2, mq_2_0, mq_2_1, ms_0, ms_1, ms_2, mf_1, mf_2, msf, nq_0_0, nq_0_1, nq_1_0, nq_1_1, nq_1_2, nq_2_0, nq_2_1, ns_0, ns_1, ns_2, nf_1, nf_2, nsf, hw2b, hw2s, hw2c, hw2d, hne1, hne2, hne3, hne4, hne5, hne6]
            · simp [go_sem, mq_0_0, mq_0_1, mq_1_0, mq_1_1, mq_1_2, mq_2_0, mq_2_1, ms_0, ms_1, ms_2, mf_1, mf_2, msf, nq_0_0, nq_0_1, nq_1_0, nq_1_1, nq_1_2, nq_2_0, nq_2_1, ns_0, ns_1, ns_2, nf_1, nf_2, nsf, hw2b, hw2s, hw2c, hw2d, hne1, hne2, hne3, hne4, hne5, hne6]
            · intro o
              simp [go_sem, mq_0_0, mq_0_1, mq_1_0, mq_1_1, mq_1_2, mq_2_0, mq_2_1, ms_0, ms_1, ms_2, mf_1, mf_2, msf, nq_0_0, nq_0_1, nq_1_0, nq_1_1, nq_1_2, nq_2_0, nq_2_1, ns_0, ns_1, ns_2, nf_1, nf_2, nsf, hw2b, hw2s, hw2c, hw2d, hne1, hne2, hne3, hne4, hne5, hne6]
            · intro o
              simp [go_sem, mq_0_0, mq_0_1, mq_1_0, mq_1_1, mq_1_2, mq_2_0, mq_2_1, ms_0, ms_1, ms_2, mf_1, mf_2, msf, nq_0_0, nq_0_1, nq_1_0, nq_1_1, nq_1_2, nq_2_0, nq_2_1, ns_0, ns_1, ns_2, nf_1, nf_2, nsf, hw2b, hw2s, hw2c, hw2d, hne1, hne2, hne3, hne4, hne5, hne6]
            · refine Fresh.mono (B := wr.heap.size) ?_ (by omega)
              repeat (first | (with_reducible exact HL2.out) | (with_reducible refine Fresh.setNe ?_ hN9 _ _) | (with_reducible refine Fresh.alloc ?_ _))
            · repeat (first | (with_reducible exact HF2.out) | (with_reducible refine FreshIn.setHi ?_ ?_ _; rotate_left; ((try simp) <;> (try omega))) | (with_reducible refine FreshIn.alloc ?_ _))
            · repeat (first | (with_reducible exact HB2.out) | (with_reducible refine Below.setCell ?_ ?_ _; rotate_left; ((try simp) <;> (try omega))) | (with_reducible refine Below.alloc ?_ ?_ _; rotate_left; ((try simp) <;> (try omega))) | (with_reducible refine Below.drew ?_) | (with_reducible refine Below.trans ?_ (below_drewN _ _ _)))
            · simp; omega
          case measure => simp [intOf]; omega
    · obtain rfl : k = F.length := by omega
      have hy0 := Lib.hid (HY.out.trans (rvX_ok d H8.out (st := (t1, v1, L1)) (by rw [← hT.out, List.drop_length, rcL_nil])))
      have hns : (n : Int) ≤ (d.size : Int) := by omega
      have hn0 : (0 : Int) ≤ (n : Int) := by omega
      go_wp2_with fail
      go_region_held3 (fun w' => w'.cell? ⟨w1.heap.size, 0, none⟩ = some (.int .i64 t1) ∧ w'.cell? ⟨w1.heap.size, 1, none⟩ = some (.int .i64 v1) ∧ w'.cell? ⟨w1.heap.size, 2, none⟩ = some (.slice a1 L1.length c1) ∧ w'.cell? ⟨w.heap.size, 0, none⟩ = some (.string d))
        (first | ((repeat' apply And.intro) <;> (first | (simp [go_sem, s_0, s_1, s_2, q_0_0, hne1, hne2, hne3, hne4, hne5, hne6]; done))) | go_keep)
        (fail)
      all_goals
        go_wp2_with fail
        refine bodyPost_ret (v := .tuple #[.agg #[.int .i64 t1, .int .i64 v1, .slice a1 L1.length c1], .agg #[.string (d.extract 0 n), .int .i64 n], .int .i64 0]) (by simp [results, Try.results73, go_sem, q_1_0, q_1_1, q_1_2, q_2_0, q_2_1, f_1, f_2]) rfl ?_
        rw [hy0.out]
        refine ⟨a1, c1, rfl, ?_, ?_⟩
        · refine Fresh.mono (B := w.heap.size + 3) ?_ (by omega)
          repeat (first | (with_reducible exact HL.out) | (with_reducible refine Fresh.setCell ?_ ?_ _; rotate_left; ((try simp) <;> (try omega))) | (with_reducible refine Fresh.drew ?_))
        · repeat (first | (with_reducible exact HBW.out) | (with_reducible refine Below.setCell ?_ ?_ _; rotate_left; ((try simp) <;> (try omega))) | (with_reducible refine Below.alloc ?_ ?_ _; rotate_left; ((try simp) <;> (try omega))) | (with_reducible refine Below.drew ?_) | (with_reducible refine Below.trans ?_ (below_drewN _ _ _)))
end
section
open Go.RowKit
set_option maxRecDepth 100000 in
set_option maxHeartbeats 16000000 in
theorem specRecovered_c (d : ByteArray) (s : Int) (w : World) (hd : d.size ≤ 60000) :
    Calls Try.prog 33 #[.agg #[.string d, .int .i64 s]] w (RvA (rvAll d) w) := by
  obtain ⟨i0, hi, hz0, hz1, hz2⟩ := info_parts Try.infoEntry
  unfold rvAll
  have HFR : Hid (∀ w, Calls Try.prog 65 #[.string d] w (FrsR (frs d.data.toList) w)) := Lib.hid (fun w => l02Frames_c d.data.toList w (by show d.size ≤ _; omega))
  obtain ⟨hfs, hfn, hfl⟩ := frF_facts d.data.toList.length d.data.toList
  obtain ⟨⟨F, n, cd⟩, hx⟩ : ∃ x, x = frs d.data.toList := ⟨_, rfl⟩
  rw [show frF d.data.toList.length d.data.toList = frs d.data.toList from rfl, ← hx] at hfs hfn hfl
  rw [← hx] at HFR ⊢
  have hn : n ≤ d.size := hfn
  have hFl : F.length ≤ 60000 := Nat.le_trans hfl hd
  have HFS := Lib.hid hfs
  clear hfs hfn hx hfl
  dsimp only at HFS HFR
  obtain ⟨Y, hY⟩ : ∃ Y, Y = rvX d (F, n, cd) := ⟨_, rfl⟩
  rw [← hY]
  have HY := Lib.hid hY
  clear hY
  go_enter Try.func33, Try.ntmps33
  go_wp2_with fail
  refine (HFR.out _).mono ?_
  rintro e w1 ⟨aF, cF, rfl, hfF, hb1⟩
  have hfF0 : FreshIn strE 9 1 (w.heap.size + 3) w1.heap.size (.slice aF F.length cF) F w1 := by simpa using hfF.here
  have hz1 := hb1.size
  simp only [World.size_alloc] at hz1
  have HB1 : Hid (Below w.heap.size w w1) := (by repeat (first | exact Below.refl _ _ | (refine Below.alloc ?_ (by (try simp) <;> (try omega)) _) | (refine Below.setCell ?_ (by (try simp) <;> (try omega)) _) | (refine Below.drew ?_) | (refine Below.trans ?_ (Below.mono (by assumption) (by (try simp) <;> (try omega))))))
  have HF1 := Lib.hid hfF0
  clear hfF hfF0
  dsimp only
  have q1_0_0 : w1.cell? ⟨w.heap.size, 0, none⟩ = some (.string d) := by
    rw [hb1.cell (p := ⟨w.heap.size, 0, none⟩) (show w.heap.size < _ by (try simp) <;> (try omega))]
    first | assumption | (simp [go_sem])
  have q1_0_1 : w1.cell? ⟨w.heap.size, 1, none⟩ = some (.int .i64 s) := by
    rw [hb1.cell (p := ⟨w.heap.size, 1, none⟩) (show w.heap.size < _ by (try simp) <;> (try omega))]
    first | assumption | (simp [go_sem])
  have q1_1_0 : w1.cell? ⟨w.heap.size + 1, 0, none⟩ = some (.int .i64 0) := by
    rw [hb1.cell (p := ⟨w.heap.size + 1, 0, none⟩) (show w.heap.size + 1 < _ by (try simp) <;> (try omega))]
    first | assumption | (simp [go_sem])
  have q1_1_1 : w1.cell? ⟨w.heap.size + 1, 1, none⟩ = some (.int .i64 0) := by
    rw [hb1.cell (p := ⟨w.heap.size + 1, 1, none⟩) (show w.heap.size + 1 < _ by (try simp) <;> (try omega))]
    first | assumption | (simp [go_sem])
  have q1_1_2 : w1.cell? ⟨w.heap.size + 1, 2, none⟩ = some (.slice none 0 0) := by
    rw [hb1.cell (p := ⟨w.heap.size + 1, 2, none⟩) (show w.heap.size + 1 < _ by (try simp) <;> (try omega))]
    first | assumption | (simp [go_sem])
  have q1_2_0 : w1.cell? ⟨w.heap.size + 1 + 1, 0, none⟩ = some (.string ⟨#[]⟩) := by
    rw [hb1.cell (p := ⟨w.heap.size + 1 + 1, 0, none⟩) (show w.heap.size + 1 + 1 < _ by (try simp) <;> (try omega))]
    first | assumption | (simp [go_sem])
  have q1_2_1 : w1.cell? ⟨w.heap.size + 1 + 1, 1, none⟩ = some (.int .i64 0) := by
    rw [hb1.cell (p := ⟨w.heap.size + 1 + 1, 1, none⟩) (show w.heap.size + 1 + 1 < _ by (try simp) <;> (try omega))]
    first | assumption | (simp [go_sem])
  have f1_1 : ∀ o, w1.frozen? ⟨w.heap.size + 1, o, none⟩ = false := fun o => by
    rw [hb1.frozen (p := ⟨w.heap.size + 1, o, none⟩) (show w.heap.size + 1 < _ by (try simp) <;> (try omega))]
    simp [go_sem]
  have f1_2 : ∀ o, w1.frozen? ⟨w.heap.size + 1 + 1, o, none⟩ = false := fun o => by
    rw [hb1.frozen (p := ⟨w.heap.size + 1 + 1, o, none⟩) (show w.heap.size + 1 + 1 < _ by (try simp) <;> (try omega))]
    simp [go_sem]
  clear hb1
  by_cases h8 : cd = 8
  · have hy8 := Lib.hid (HY.out.trans (rvX_sum d h8))
    subst h8
    have hnA : ¬ w1.heap.size + 1 = w.heap.size + 1 := by omega
    have hnB : ¬ w1.heap.size + 1 = w.heap.size + 1 + 1 := by omega
    have hnC : ¬ w1.heap.size = w.heap.size := by omega
    have hnD : ¬ w1.heap.size = w.heap.size + 1 := by omega
    have mq1_0_0 : ∀ x y, ((w1.alloc x).alloc y).cell? ⟨w.heap.size, 0, none⟩ = some (.string d) := fun x y => by
      rw [World.cell?_alloc_lt _ _ _ (by show w.heap.size < _; simp; omega), World.cell?_alloc_lt _ _ _ (by show w.heap.size < _; omega)]
      exact q1_0_0
    have mq1_0_1 : ∀ x y, ((w1.alloc x).alloc y).cell? ⟨w.heap.size, 1, none⟩ = some (.int .i64 s) := fun x y => by
      rw [World.cell?_alloc_lt _ _ _ (by show w.heap.size < _; simp; omega), World.cell?_alloc_lt _ _ _ (by show w.heap.size < _; omega)]
      exact q1_0_1
    have mq1_1_0 : ∀ x y, ((w1.alloc x).alloc y).cell? ⟨w.heap.size + 1, 0, none⟩ = some (.int .i64 0) := fun x y => by
      rw [World.cell?_alloc_lt _ _ _ (by show w.heap.size + 1 < _; simp; omega), World.cell?_alloc_lt _ _ _ (by show w.heap.size + 1 < _; omega)]
      exact q1_1_0
    have mq1_1_1 : ∀ x y, ((w1.alloc x).alloc y).cell? ⟨w.heap.size + 1, 1, none⟩ = some (.int .i64 0) := fun x y => by
      rw [World.cell?_alloc_lt _ _ _ (by show w.heap.size + 1 < _; simp; omega), World.cell?_alloc_lt _ _ _ (by show w.heap.size + 1 < _; omega)]
      exact q1_1_1
    have mq1_1_2 : ∀ x y, ((w1.alloc x).alloc y).cell? ⟨w.heap.size + 1, 2, none⟩ = some (.slice none 0 0) := fun x y => by
      rw [World.cell?_alloc_lt _ _ _ (by show w.heap.size + 1 < _; simp; omega), World.cell?_alloc_lt _ _ _ (by show w.heap.size + 1 < _; omega)]
      exact q1_1_2
    have mq1_2_0 : ∀ x y, ((w1.alloc x).alloc y).cell? ⟨w.heap.size + 1 + 1, 0, none⟩ = some (.string ⟨#[]⟩) := fun x y => by
      rw [World.cell?_alloc_lt _ _ _ (by show w.heap.size + 1 + 1 < _; simp; omega), World.cell?_alloc_lt _ _ _ (by show w.heap.size + 1 + 1 < _; omega)]
      exact q1_2_0
    have mq1_2_1 : ∀ x y, ((w1.alloc x).alloc y).cell? ⟨w.heap.size + 1 + 1, 1, none⟩ = some (.int .i64 0) := fun x y => by
      rw [World.cell?_alloc_lt _ _ _ (by show w.heap.size + 1 + 1 < _; simp; omega), World.cell?_alloc_lt _ _ _ (by show w.heap.size + 1 + 1 < _; omega)]
      exact q1_2_1
    have mf1_1 : ∀ x y o, ((w1.alloc x).alloc y).frozen? ⟨w.heap.size + 1, o, none⟩ = false := fun x y o => by
      rw [((Below.refl _ _).alloc (Nat.le_refl _) _ : Below _ _ _).frozen (p := ⟨w.heap.size + 1, o, none⟩) (by show w.heap.size + 1 < _; (try simp) <;> (try omega)), ((Below.refl _ _).alloc (Nat.le_refl _) _ : Below _ _ _).frozen (p := ⟨w.heap.size + 1, o, none⟩) (by show w.heap.size + 1 < _; (try simp) <;> (try omega))]
      exact f1_1 o
    have mf1_2 : ∀ x y o, ((w1.alloc x).alloc y).frozen? ⟨w.heap.size + 1 + 1, o, none⟩ = false := fun x y o => by
      rw [((Below.refl _ _).alloc (Nat.le_refl _) _ : Below _ _ _).frozen (p := ⟨w.heap.size + 1 + 1, o, none⟩) (by show w.heap.size + 1 + 1 < _; (try simp) <;> (try omega)), ((Below.refl _ _).alloc (Nat.le_refl _) _ : Below _ _ _).frozen (p := ⟨w.heap.size + 1 + 1, o, none⟩) (by show w.heap.size + 1 + 1 < _; (try simp) <;> (try omega))]
      exact f1_2 o
    go_wp2_with fail
    go_region_held3 (fun w' => w'.cell? ⟨w.heap.size, 0, none⟩ = some (.string d) ∧ w'.cell? ⟨w.heap.size, 1, none⟩ = some (.int .i64 s) ∧ w'.cell? ⟨w1.heap.size + 1, 0, none⟩ = some (.int .i64 0) ∧ w'.cell? ⟨w1.heap.size + 1, 1, none⟩ = some (.int .i64 (-1)) ∧ w'.cell? ⟨w1.heap.size + 1, 2, none⟩ = some (.slice (some ⟨w1.heap.size, 0, none⟩) 0 0))
      (first | ((repeat' apply And.intro) <;> (first | (simp [go_sem, mq1_0_0, mq1_0_1, mq1_1_0, mq1_1_1, mq1_1_2, mq1_2_0, mq1_2_1, mf1_1, mf1_2, hnA, hnB, hnC, hnD]; done))) | go_keep)
      (fail)
    all_goals
      go_wp2_with fail
      refine bodyPost_ret (v := .tuple #[.agg #[.int .i64 0, .int .i64 (-1), .slice (some ⟨w1.heap.size, 0, none⟩) 0 0], .agg #[.string d, .int .i64 s], .int .i64 8]) (by simp [results, Try.results33, go_sem, mq1_0_0, mq1_0_1, mq1_1_0, mq1_1_1, mq1_1_2, mq1_2_0, mq1_2_1, mf1_1, mf1_2]) rfl ?_
      rw [hy8.out]
      refine ⟨0, -1, _, _, [], d, s, rfl, (fun h => by cases h), ?_⟩
      repeat (first | (with_reducible exact HB1.out) | (with_reducible refine Below.setCell ?_ ?_ _; rotate_left; ((try simp) <;> (try omega))) | (with_reducible refine Below.alloc ?_ ?_ _; rotate_left; ((try simp) <;> (try omega))) | (with_reducible refine Below.drew ?_) | (with_reducible refine Below.trans ?_ (below_drewN _ _ _)))
  have H8 := Lib.hid h8
  have h8b : decide (cd = 8) = false := by simpa using h8
  have h8c : (cd == 8) = false := by simpa using h8
  go_wp2_with fail
  go_loopw [9] (fun i wr => ∃ (k : Nat) (t1 v1 : Int) (a1 : Option Addr) (c1 : Nat) (L1 : List Ent), k ≤ F.length ∧ i = .int .i64 k ∧ Hid (rcL (t1, v1, L1) (F.drop k) = rcL (0, -1, []) F) ∧ L1.length ≤ 60 ∧ Hid (∀ e ∈ L1, e.2.size ≤ 65536) ∧ wr.cell? ⟨(w1.heap.size + 1), 0, none⟩ = some (.int .i64 t1) ∧ wr.cell? ⟨(w1.heap.size + 1), 1, none⟩ = some (.int .i64 v1) ∧ wr.cell? ⟨(w1.heap.size + 1), 2, none⟩ = some (.slice a1 L1.length c1) ∧ (∀ o, wr.frozen? ⟨(w1.heap.size + 1), o, none⟩ = false) ∧ wr.cell? ⟨w.heap.size, 0, none⟩ = some (.string d) ∧ wr.cell? ⟨w.heap.size, 1, none⟩ = some (.int .i64 s) ∧ wr.cell? ⟨w.heap.size + 1, 0, none⟩ = some (.int .i64 0) ∧ wr.cell? ⟨w.heap.size + 1, 1, none⟩ = some (.int .i64 0) ∧ wr.cell? ⟨w.heap.size + 1, 2, none⟩ = some (.slice none 0 0) ∧ wr.cell? ⟨w.heap.size + 1 + 1, 0, none⟩ = some (.string ⟨#[]⟩) ∧ wr.cell? ⟨w.heap.size + 1 + 1, 1, none⟩ = some (.int .i64 0) ∧ (∀ o, wr.frozen? ⟨w.heap.size + 1, o, none⟩ = false) ∧ (∀ o, wr.frozen? ⟨w.heap.size + 1 + 1, o, none⟩ = false) ∧ Fresh entE 76 2 (w.heap.size + 3) (.slice a1 L1.length c1) L1 wr ∧ (Value.slice a1 L1.length c1).ownBlock ≠ some (w1.heap.size + 1) ∧ FreshIn strE 9 1 (w.heap.size + 3) w1.heap.size (.slice aF F.length cF) F wr ∧ Below w.heap.size w wr ∧ (w1.heap.size + 1) < wr.heap.size) (fun i _ => F.length - (intOf i).toNat)
  case atStart =>
    refine ⟨0, 0, -1, (some ⟨w1.heap.size, 0, none⟩), 0, [], Nat.zero_le _, rfl, (by show _ = _; rw [List.drop_zero]), by simp, (fun e he => by cases he), by simp [go_sem], by simp [go_sem], by simp [go_sem], fun o => by simp [go_sem], (by rw [World.cell?_alloc_lt _ _ _ (by show w.heap.size < _; (try simp) <;> (try omega)), World.cell?_alloc_lt _ _ _ (by show w.heap.size < _; (try simp) <;> (try omega))]; exact q1_0_0), (by rw [World.cell?_alloc_lt _ _ _ (by show w.heap.size < _; (try simp) <;> (try omega)), World.cell?_alloc_lt _ _ _ (by show w.heap.size < _; (try simp) <;> (try omega))]; exact q1_0_1), (by rw [World.cell?_alloc_lt _ _ _ (by show w.heap.size + 1 < _; (try simp) <;> (try omega)), World.cell?_alloc_lt _ _ _ (by show w.heap.size + 1 < _; (try simp) <;> (try omega))]; exact q1_1_0), (by rw [World.cell?_alloc_lt _ _ _ (by show w.heap.size + 1 < _; (try simp) <;> (try omega)), World.cell?_alloc_lt _ _ _ (by show w.heap.size + 1 < _; (try simp) <;> (try omega))]; exact q1_1_1), (by rw [World.cell?_alloc_lt _ _ _ (by show w.heap.size + 1 < _; (try simp) <;> (try omega)), World.cell?_alloc_lt _ _ _ (by show w.heap.size + 1 < _; (try simp) <;> (try omega))]; exact q1_1_2), (by rw [World.cell?_alloc_lt _ _ _ (by show w.heap.size + 1 + 1 < _; (try simp) <;> (try omega)), World.cell?_alloc_lt _ _ _ (by show w.heap.size + 1 + 1 < _; (try simp) <;> (try omega))]; exact q1_2_0), (by rw [World.cell?_alloc_lt _ _ _ (by show w.heap.size + 1 + 1 < _; (try simp) <;> (try omega)), World.cell?_alloc_lt _ _ _ (by show w.heap.size + 1 + 1 < _; (try simp) <;> (try omega))]; exact q1_2_1), (fun o => by rw [((Below.refl _ _).alloc (Nat.le_refl _) _ : Below _ _ _).frozen (p := ⟨w.heap.size + 1, o, none⟩) (by show w.heap.size + 1 < _; (try simp) <;> (try omega)), ((Below.refl _ _).alloc (Nat.le_refl _) _ : Below _ _ _).frozen (p := ⟨w.heap.size + 1, o, none⟩) (by show w.heap.size + 1 < _; (try simp) <;> (try omega))]; exact f1_1 o), (fun o => by rw [((Below.refl _ _).alloc (Nat.le_refl _) _ : Below _ _ _).frozen (p := ⟨w.heap.size + 1 + 1, o, none⟩) (by show w.heap.size + 1 + 1 < _; (try simp) <;> (try omega)), ((Below.refl _ _).alloc (Nat.le_refl _) _ : Below _ _ _).frozen (p := ⟨w.heap.size + 1 + 1, o, none⟩) (by show w.heap.size + 1 + 1 < _; (try simp) <;> (try omega))]; exact f1_2 o), ((fresh_madeE w1 (w.heap.size + 3) (by omega)).alloc _), (by simp [Value.ownBlock]), (HF1.out.alloc _).alloc _, ?_, by simp⟩
    repeat (first | (with_reducible exact HB1.out) | (with_reducible refine Below.setCell ?_ ?_ _; rotate_left; ((try simp) <;> (try omega))) | (with_reducible refine Below.alloc ?_ ?_ _; rotate_left; ((try simp) <;> (try omega))) | (with_reducible refine Below.drew ?_) | (with_reducible refine Below.trans ?_ (below_drewN _ _ _)))
  case round =>
    obtain ⟨k, t1, v1, a1, c1, L1, hk, rfl, hT, hL60, hLs, s_0, s_1, s_2, sf, q_0_0, q_0_1, q_1_0, q_1_1, q_1_2, q_2_0, q_2_1, f_1, f_2, hf, hne, hFF, hbel, hBw⟩ := hrel
    have HL := Lib.hid hf
    have HFF := Lib.hid hFF
    have HBW := Lib.hid hbel
    have HNE := Lib.hid hne
    have hz := hbel.size
    have hzw1 : w.heap.size + 3 ≤ w1.heap.size := by omega
    clear hf hFF hbel hne
    have hne1 : ¬ (w1.heap.size + 1) = w.heap.size := by omega
    have hne2 : ¬ (w1.heap.size + 1) = w.heap.size + 1 := by omega
    have hne3 : ¬ (w1.heap.size + 1) = w.heap.size + 1 + 1 := by omega
    have hne4 : ¬ w.heap.size = (w1.heap.size + 1) := by omega
    have hne5 : ¬ w.heap.size + 1 = (w1.heap.size + 1) := by omega
    have hne6 : ¬ w.heap.size + 1 + 1 = (w1.heap.size + 1) := by omega
    by_cases hlt : k < F.length
    · obtain ⟨bF, oF, rfl, hbF, hcF⟩ := (HFF.out.sl (enc := strE) (sz := 1) (fun _ => rfl)).at hlt
      have hbF1 := HFF.out.2 bF rfl
      have c1' := hcF k hlt 0 (by omega)
      simp only [strE, Nat.mul_one, Nat.add_zero, List.getElem?_cons_zero] at c1'
      have hrs := HFS.out F[k] (List.getElem_mem hlt)
      have HDR := Lib.hid (List.drop_eq_getElem_cons hlt)
      have hi0 : (0 : Int) ≤ (k : Int) := by omega
      have hi1 : (k : Int) < (F.length : Int) := by omega
      clear hcF
      generalize F[k] = r at *
      have HSL := Lib.hid (HL.out.sl (enc := entE) (fun _ => rfl))
      have HAP : Hid (∀ w', Below wr.heap.size wr w' → Calls Try.prog 66 #[.agg #[.int .i64 t1, .int .i64 v1, .slice a1 L1.length c1], .string r] w' (AppR (apV t1 v1 L1 (rdAll r.data.toList)) w')) := Lib.hid (fun w' h => specApply_c a1 c1 L1 t1 v1 r.data.toList w' (HSL.out.keep h) hL60 hLs.out (by show r.size ≤ _; exact hrs))
      cases hap : apV t1 v1 L1 (rdAll r.data.toList)
      case none =>
        have HAPE := Lib.hid hap
        clear hap
        have rq_0_0 : ∀ x, (wr.alloc x).cell? ⟨w.heap.size, 0, none⟩ = some (.string d) := fun x => by
          rw [World.cell?_alloc_lt _ _ _ (by show w.heap.size < _; omega)]
          exact q_0_0
        have rq_0_1 : ∀ x, (wr.alloc x).cell? ⟨w.heap.size, 1, none⟩ = some (.int .i64 s) := fun x => by
          rw [World.cell?_alloc_lt _ _ _ (by show w.heap.size < _; omega)]
          exact q_0_1
        have rq_1_0 : ∀ x, (wr.alloc x).cell? ⟨w.heap.size + 1, 0, none⟩ = some (.int .i64 0) := fun x => by
          rw [World.cell?_alloc_lt _ _ _ (by show w.heap.size + 1 < _; omega)]
          exact q_1_0
        have rq_1_1 : ∀ x, (wr.alloc x).cell? ⟨w.heap.size + 1, 1, none⟩ = some (.int .i64 0) := fun x => by
          rw [World.cell?_alloc_lt _ _ _ (by show w.heap.size + 1 < _; omega)]
          exact q_1_1
        have rq_1_2 : ∀ x, (wr.alloc x).cell? ⟨w.heap.size + 1, 2, none⟩ = some (.slice none 0 0) := fun x => by
          rw [World.cell?_alloc_lt _ _ _ (by show w.heap.size + 1 < _; omega)]
          exact q_1_2
        have rq_2_0 : ∀ x, (wr.alloc x).cell? ⟨w.heap.size + 1 + 1, 0, none⟩ = some (.string ⟨#[]⟩) := fun x => by
          rw [World.cell?_alloc_lt _ _ _ (by show w.heap.size + 1 + 1 < _; omega)]
          exact q_2_0
        have rq_2_1 : ∀ x, (wr.alloc x).cell? ⟨w.heap.size + 1 + 1, 1, none⟩ = some (.int .i64 0) := fun x => by
          rw [World.cell?_alloc_lt _ _ _ (by show w.heap.size + 1 + 1 < _; omega)]
          exact q_2_1
        have rs_0 : ∀ x, (wr.alloc x).cell? ⟨(w1.heap.size + 1), 0, none⟩ = some (.int .i64 t1) := fun x => by
          rw [World.cell?_alloc_lt _ _ _ (by show (w1.heap.size + 1) < _; omega)]
          exact s_0
        have rs_1 : ∀ x, (wr.alloc x).cell? ⟨(w1.heap.size + 1), 1, none⟩ = some (.int .i64 v1) := fun x => by
          rw [World.cell?_alloc_lt _ _ _ (by show (w1.heap.size + 1) < _; omega)]
          exact s_1
        have rs_2 : ∀ x, (wr.alloc x).cell? ⟨(w1.heap.size + 1), 2, none⟩ = some (.slice a1 L1.length c1) := fun x => by
          rw [World.cell?_alloc_lt _ _ _ (by show (w1.heap.size + 1) < _; omega)]
          exact s_2
        have rc1 : ∀ x, (wr.alloc x).cell? ⟨bF, oF + k, none⟩ = some (.string r) := fun x => by
          rw [World.cell?_alloc_lt _ _ _ (by show bF < _; omega)]
          exact c1'
        have rf_1 : ∀ x o, (wr.alloc x).frozen? ⟨w.heap.size + 1, o, none⟩ = false := fun x o => by
          rw [((Below.refl _ _).alloc (Nat.le_refl _) _ : Below _ _ _).frozen (p := ⟨w.heap.size + 1, o, none⟩) (by show w.heap.size + 1 < _; omega)]
          exact f_1 o
        have rf_2 : ∀ x o, (wr.alloc x).frozen? ⟨w.heap.size + 1 + 1, o, none⟩ = false := fun x o => by
          rw [((Below.refl _ _).alloc (Nat.le_refl _) _ : Below _ _ _).frozen (p := ⟨w.heap.size + 1 + 1, o, none⟩) (by show w.heap.size + 1 + 1 < _; omega)]
          exact f_2 o
        have rsf : ∀ x o, (wr.alloc x).frozen? ⟨(w1.heap.size + 1), o, none⟩ = false := fun x o => by
          rw [((Below.refl _ _).alloc (Nat.le_refl _) _ : Below _ _ _).frozen (p := ⟨(w1.heap.size + 1), o, none⟩) (by show (w1.heap.size + 1) < _; omega)]
          exact sf o
        have hwn0 : ¬ wr.heap.size = w.heap.size := by omega
        have hwm0 : ¬ w.heap.size = wr.heap.size := by omega
        have hwn1 : ¬ wr.heap.size = w.heap.size + 1 := by omega
        have hwm1 : ¬ w.heap.size + 1 = wr.heap.size := by omega
        have hwn2 : ¬ wr.heap.size = w.heap.size + 1 + 1 := by omega
        have hwm2 : ¬ w.heap.size + 1 + 1 = wr.heap.size := by omega
        have hwn3 : ¬ wr.heap.size = (w1.heap.size + 1) := by omega
        have hwm3 : ¬ (w1.heap.size + 1) = wr.heap.size := by omega
        have hwn4 : ¬ wr.heap.size = bF := by omega
        have hwm4 : ¬ bF = wr.heap.size := by omega
        go_wp2_with fail
        go_region_held3 (fun w' => w'.cell? ⟨(w1.heap.size + 1), 0, none⟩ = some (.int .i64 t1) ∧ w'.cell? ⟨(w1.heap.size + 1), 1, none⟩ = some (.int .i64 v1) ∧ w'.cell? ⟨(w1.heap.size + 1), 2, none⟩ = some (.slice a1 L1.length c1) ∧ w'.cell? ⟨bF, oF + k, none⟩ = some (.string r))
          (first | ((repeat' apply And.intro) <;> (first | (simp [go_sem, s_0, s_1, s_2, c1', rs_0, rs_1, rs_2, rc1, sf, rsf, hwn3, hwm3, hwn4, hwm4]; done) | (simp [go_sem, s_0, s_1, s_2, c1', rs_0, rs_1, rs_2, rc1, sf, rsf, hwn3, hwm3, hwn4, hwm4, ns_0, ns_1, ns_2, nc1, hw2b, hw2F, u_0, u_1, u_2, uf]; done) | (simp [go_sem, s_0, s_1, s_2, c1', rs_0, rs_1, rs_2, rc1, sf, rsf, hwn3, hwm3, hwn4, hwm4, ns_0, ns_1, ns_2, nc1, hw2b, hw2F]; done))) | go_keep)
          (first
            | (go_at_call 66
               refine (HAP.out ((wr.alloc (.cells #[.int .i64 0, .int .i64 0, .slice none 0 0] 60)).drew) (((Below.refl _ _).alloc (Nat.le_refl _) _).drew)).mono ?_
               rw [HAPE.out]
               rintro e w2 ⟨t2, v2, a2, c2, L2, rfl, hx2, hb2⟩
               have hz2 := hb2.size
               simp only [World.size_drew, World.size_alloc] at hz2
               have hw2b : (w1.heap.size + 1) < w2.heap.size := by omega
               have hw2F : bF < w2.heap.size := by omega
               have ns_0 : w2.cell? ⟨(w1.heap.size + 1), 0, none⟩ = some (.int .i64 t1) := (hb2.cell (p := ⟨(w1.heap.size + 1), 0, none⟩) (by show (w1.heap.size + 1) < (World.drew (World.alloc wr _)).heap.size; rw [World.size_drew, World.size_alloc]; omega)).trans (rs_0 _)
               have ns_1 : w2.cell? ⟨(w1.heap.size + 1), 1, none⟩ = some (.int .i64 v1) := (hb2.cell (p := ⟨(w1.heap.size + 1), 1, none⟩) (by show (w1.heap.size + 1) < (World.drew (World.alloc wr _)).heap.size; rw [World.size_drew, World.size_alloc]; omega)).trans (rs_1 _)
               have ns_2 : w2.cell? ⟨(w1.heap.size + 1), 2, none⟩ = some (.slice a1 L1.length c1) := (hb2.cell (p := ⟨(w1.heap.size + 1), 2, none⟩) (by show (w1.heap.size + 1) < (World.drew (World.alloc wr _)).heap.size; rw [World.size_drew, World.size_alloc]; omega)).trans (rs_2 _)
               have nc1 : w2.cell? ⟨bF, oF + k, none⟩ = some (.string r) := (hb2.cell (p := ⟨bF, oF + k, none⟩) (by show bF < (World.drew (World.alloc wr _)).heap.size; rw [World.size_drew, World.size_alloc]; omega)).trans (rc1 _)
               have u_0 : w2.cell? ⟨wr.heap.size, 0, none⟩ = some (.int .i64 0) := (hb2.cell (p := ⟨wr.heap.size, 0, none⟩) (by show wr.heap.size < (World.drew (World.alloc wr _)).heap.size; rw [World.size_drew, World.size_alloc]; omega)).trans (World.cell?_alloc_new wr _ _ _)
               have u_1 : w2.cell? ⟨wr.heap.size, 1, none⟩ = some (.int .i64 0) := (hb2.cell (p := ⟨wr.heap.size, 1, none⟩) (by show wr.heap.size < (World.drew (World.alloc wr _)).heap.size; rw [World.size_drew, World.size_alloc]; omega)).trans (World.cell?_alloc_new wr _ _ _)
               have u_2 : w2.cell? ⟨wr.heap.size, 2, none⟩ = some (.slice none 0 0) := (hb2.cell (p := ⟨wr.heap.size, 2, none⟩) (by show wr.heap.size < (World.drew (World.alloc wr _)).heap.size; rw [World.size_drew, World.size_alloc]; omega)).trans (World.cell?_alloc_new wr _ _ _)
               have uf : ∀ o, w2.frozen? ⟨wr.heap.size, o, none⟩ = false := fun o => (hb2.frozen (p := ⟨wr.heap.size, o, none⟩) (by show wr.heap.size < (World.drew (World.alloc wr _)).heap.size; rw [World.size_drew, World.size_alloc]; omega)).trans (by simp [go_sem]))
            | (go_at_call 66
               refine (HAP.out wr.drew ((Below.refl _ _).drew)).mono ?_
               rw [HAPE.out]
               rintro e w2 ⟨t2, v2, a2, c2, L2, rfl, hx2, hb2⟩
               have hz2 := hb2.size
               simp only [World.size_drew] at hz2
               have hw2b : (w1.heap.size + 1) < w2.heap.size := by omega
               have hw2F : bF < w2.heap.size := by omega
               have ns_0 : w2.cell? ⟨(w1.heap.size + 1), 0, none⟩ = some (.int .i64 t1) := (hb2.cell (p := ⟨(w1.heap.size + 1), 0, none⟩) (by show (w1.heap.size + 1) < wr.heap.size; omega)).trans (s_0)
               have ns_1 : w2.cell? ⟨(w1.heap.size + 1), 1, none⟩ = some (.int .i64 v1) := (hb2.cell (p := ⟨(w1.heap.size + 1), 1, none⟩) (by show (w1.heap.size + 1) < wr.heap.size; omega)).trans (s_1)
               have ns_2 : w2.cell? ⟨(w1.heap.size + 1), 2, none⟩ = some (.slice a1 L1.length c1) := (hb2.cell (p := ⟨(w1.heap.size + 1), 2, none⟩) (by show (w1.heap.size + 1) < wr.heap.size; omega)).trans (s_2)
               have nc1 : w2.cell? ⟨bF, oF + k, none⟩ = some (.string r) := (hb2.cell (p := ⟨bF, oF + k, none⟩) (by show bF < wr.heap.size; omega)).trans (c1')))
        all_goals
          have HB2 : Hid (Below w.heap.size w w2) := by
            first
              | exact (HBW.out.alloc (by omega) _).drew.trans (hb2.mono (by rw [World.size_drew, World.size_alloc]; omega))
              | exact HBW.out.drew.trans (hb2.mono (by rw [World.size_drew]; omega))
          have nq_0_0 : w2.cell? ⟨w.heap.size, 0, none⟩ = some (.string d) := (hb2.cell (p := ⟨w.heap.size, 0, none⟩) (by first | (show w.heap.size < (World.drew (World.alloc wr _)).heap.size; rw [World.size_drew, World.size_alloc]; omega) | (show w.heap.size < wr.heap.size; omega))).trans (by first | exact q_0_0 | exact rq_0_0 _)
          have nq_0_1 : w2.cell? ⟨w.heap.size, 1, none⟩ = some (.int .i64 s) := (hb2.cell (p := ⟨w.heap.size, 1, none⟩) (by first | (show w.heap.size < (World.drew (World.alloc wr _)).heap.size; rw [World.size_drew, World.size_alloc]; omega) | (show w.heap.size < wr.heap.size; omega))).trans (by first | exact q_0_1 | exact rq_0_1 _)
          have nq_1_0 : w2.cell? ⟨w.heap.size + 1, 0, none⟩ = some (.int .i64 0) := (hb2.cell (p := ⟨w.heap.size + 1, 0, none⟩) (by first | (show w.heap.size + 1 < (World.drew (World.alloc wr _)).heap.size; rw [World.size_drew, World.size_alloc]; omega) | (show w.heap.size + 1 < wr.heap.size; omega))).trans (by first | exact q_1_0 | exact rq_1_0 _)
          have nq_1_1 : w2.cell? ⟨w.heap.size + 1, 1, none⟩ = some (.int .i64 0) := (hb2.cell (p := ⟨w.heap.size + 1, 1, none⟩) (by first | (show w.heap.size + 1 < (World.drew (World.alloc wr _)).heap.size; rw [World.size_drew, World.size_alloc]; omega) | (show w.heap.size + 1 < wr.heap.size; omega))).trans (by first | exact q_1_1 | exact rq_1_1 _)
          have nq_1_2 : w2.cell? ⟨w.heap.size + 1, 2, none⟩ = some (.slice none 0 0) := (hb2.cell (p := ⟨w.heap.size + 1, 2, none⟩) (by first | (show w.heap.size + 1 < (World.drew (World.alloc wr _)).heap.size; rw [World.size_drew, World.size_alloc]; omega) | (show w.heap.size + 1 < wr.heap.size; omega))).trans (by first | exact q_1_2 | exact rq_1_2 _)
          have nq_2_0 : w2.cell? ⟨w.heap.size + 1 + 1, 0, none⟩ = some (.string ⟨#[]⟩) := (hb2.cell (p := ⟨w.heap.size + 1 + 1, 0, none⟩) (by first | (show w.heap.size + 1 + 1 < (World.drew (World.alloc wr _)).heap.size; rw [World.size_drew, World.size_alloc]; omega) | (show w.heap.size + 1 + 1 < wr.heap.size; omega))).trans (by first | exact q_2_0 | exact rq_2_0 _)
          have nq_2_1 : w2.cell? ⟨w.heap.size + 1 + 1, 1, none⟩ = some (.int .i64 0) := (hb2.cell (p := ⟨w.heap.size + 1 + 1, 1, none⟩) (by first | (show w.heap.size + 1 + 1 < (World.drew (World.alloc wr _)).heap.size; rw [World.size_drew, World.size_alloc]; omega) | (show w.heap.size + 1 + 1 < wr.heap.size; omega))).trans (by first | exact q_2_1 | exact rq_2_1 _)
          have nf_1 : ∀ o, w2.frozen? ⟨w.heap.size + 1, o, none⟩ = false := fun o => (hb2.frozen (p := ⟨w.heap.size + 1, o, none⟩) (by first | (show w.heap.size + 1 < (World.drew (World.alloc wr _)).heap.size; rw [World.size_drew, World.size_alloc]; omega) | (show w.heap.size + 1 < wr.heap.size; omega))).trans (by first | exact f_1 o | exact rf_1 _ o)
          have nf_2 : ∀ o, w2.frozen? ⟨w.heap.size + 1 + 1, o, none⟩ = false := fun o => (hb2.frozen (p := ⟨w.heap.size + 1 + 1, o, none⟩) (by first | (show w.heap.size + 1 + 1 < (World.drew (World.alloc wr _)).heap.size; rw [World.size_drew, World.size_alloc]; omega) | (show w.heap.size + 1 + 1 < wr.heap.size; omega))).trans (by first | exact f_2 o | exact rf_2 _ o)
          have nsf : ∀ o, w2.frozen? ⟨(w1.heap.size + 1), o, none⟩ = false := fun o => (hb2.frozen (p := ⟨(w1.heap.size + 1), o, none⟩) (by first | (show (w1.heap.size + 1) < (World.drew (World.alloc wr _)).heap.size; rw [World.size_drew, World.size_alloc]; omega) | (show (w1.heap.size + 1) < wr.heap.size; omega))).trans (by first | exact sf o | exact rsf _ o)
          have hw2s : w.heap.size + 1 + 1 < w2.heap.size := by omega
          have hw2c : w.heap.size + 1 < w2.heap.size := by omega
          have hw2d : w.heap.size < w2.heap.size := by omega
          have mq_0_0 : ∀ x, (w2.alloc x).cell? ⟨w.heap.size, 0, none⟩ = some (.string d) := fun x => by
            rw [World.cell?_alloc_lt _ _ _ (by show w.heap.size < _; omega)]
            exact nq_0_0
          have mq_0_1 : ∀ x, (w2.alloc x).cell? ⟨w.heap.size, 1, none⟩ = some (.int .i64 s) := fun x => by
            rw [World.cell?_alloc_lt _ _ _ (by show w.heap.size < _; omega)]
            exact nq_0_1
          have mq_1_0 : ∀ x, (w2.alloc x).cell? ⟨w.heap.size + 1, 0, none⟩ = some (.int .i64 0) := fun x => by
            rw [World.cell?_alloc_lt _ _ _ (by show w.heap.size + 1 < _; omega)]
            exact nq_1_0
          have mq_1_1 : ∀ x, (w2.alloc x).cell? ⟨w.heap.size + 1, 1, none⟩ = some (.int .i64 0) := fun x => by
            rw [World.cell?_alloc_lt _ _ _ (by show w.heap.size + 1 < _; omega)]
            exact nq_1_1
          have mq_1_2 : ∀ x, (w2.alloc x).cell? ⟨w.heap.size + 1, 2, none⟩ = some (.slice none 0 0) := fun x => by
            rw [World.cell?_alloc_lt _ _ _ (by show w.heap.size + 1 < _; omega)]
            exact nq_1_2
          have mq_2_0 : ∀ x, (w2.alloc x).cell? ⟨w.heap.size + 1 + 1, 0, none⟩ = some (.string ⟨#[]⟩) := fun x => by
            rw [World.cell?_alloc_lt _ _ _ (by show w.heap.size + 1 + 1 < _; omega)]
            exact nq_2_0
          have mq_2_1 : ∀ x, (w2.alloc x).cell? ⟨w.heap.size + 1 + 1, 1, none⟩ = some (.int .i64 0) := fun x => by
            rw [World.cell?_alloc_lt _ _ _ (by show w.heap.size + 1 + 1 < _; omega)]
            exact nq_2_1
          have ms_0 : ∀ x, (w2.alloc x).cell? ⟨(w1.heap.size + 1), 0, none⟩ = some (.int .i64 t1) := fun x => by
            rw [World.cell?_alloc_lt _ _ _ (by show (w1.heap.size + 1) < _; omega)]
            exact ns_0
          have ms_1 : ∀ x, (w2.alloc x).cell? ⟨(w1.heap.size + 1), 1, none⟩ = some (.int .i64 v1) := fun x => by
            rw [World.cell?_alloc_lt _ _ _ (by show (w1.heap.size + 1) < _; omega)]
            exact ns_1
          have ms_2 : ∀ x, (w2.alloc x).cell? ⟨(w1.heap.size + 1), 2, none⟩ = some (.slice a1 L1.length c1) := fun x => by
            rw [World.cell?_alloc_lt _ _ _ (by show (w1.heap.size + 1) < _; omega)]
            exact ns_2
          have mf_1 : ∀ x o, (w2.alloc x).frozen? ⟨w.heap.size + 1, o, none⟩ = false := fun x o => by
            rw [((Below.refl _ _).alloc (Nat.le_refl _) _ : Below _ _ _).frozen (p := ⟨w.heap.size + 1, o, none⟩) (by show w.heap.size + 1 < _; omega)]
            exact nf_1 o
          have mf_2 : ∀ x o, (w2.alloc x).frozen? ⟨w.heap.size + 1 + 1, o, none⟩ = false := fun x o => by
            rw [((Below.refl _ _).alloc (Nat.le_refl _) _ : Below _ _ _).frozen (p := ⟨w.heap.size + 1 + 1, o, none⟩) (by show w.heap.size + 1 + 1 < _; omega)]
            exact nf_2 o
          have msf : ∀ x o, (w2.alloc x).frozen? ⟨(w1.heap.size + 1), o, none⟩ = false := fun x o => by
            rw [((Below.refl _ _).alloc (Nat.le_refl _) _ : Below _ _ _).frozen (p := ⟨(w1.heap.size + 1), o, none⟩) (by show (w1.heap.size + 1) < _; omega)]
            exact nsf o
          clear hx2
          have hy3 := Lib.hid (HY.out.trans (rvX_bad d H8.out (by rw [← hT.out, HDR.out, rcL_none HAPE.out])))
        all_goals
          go_wp2_with fail
          go_region_held3 (fun w' => w'.cell? ⟨(w1.heap.size + 1), 0, none⟩ = some (.int .i64 t1) ∧ w'.cell? ⟨(w1.heap.size + 1), 1, none⟩ = some (.int .i64 v1) ∧ w'.cell? ⟨(w1.heap.size + 1), 2, none⟩ = some (.slice a1 L1.length c1) ∧ w'.cell? ⟨w.heap.size, 0, none⟩ = some (.string d) ∧ w'.cell? ⟨w.heap.size, 1, none⟩ = some (.int .i64 s))
            (first | ((repeat' apply And.intro) <;> (first | (simp [go_sem, hwn0, hwn1, hwn2, hwn3, hwm0, hwm1, hwm2, hwm3, hne1, hne2, hne3, hne4, hne5, hne6, ns_0, ns_1, ns_2, nq_0_0, nq_0_1, ms_0, ms_1, ms_2, mq_0_0, mq_0_1, hw2b, hw2d, hw2c, hw2s]; done))) | go_keep)
            (fail)
          all_goals
            go_wp2_with fail
            refine bodyPost_ret (v := .tuple #[.agg #[.int .i64 t1, .int .i64 v1, .slice a1 L1.length c1], .agg #[.string d, .int .i64 s], .int .i64 3]) (by simp [results, Try.results33, go_sem, mq_1_0, mq_1_1, mq_1_2, mq_2_0, mq_2_1, mf_1, mf_2, nq_1_0, nq_1_1, nq_1_2, nq_2_0, nq_2_1, nf_1, nf_2, hw2s, hw2c, hwn0, hwm0, hwn1, hwm1, hwn2, hwm2, hwn3, hwm3]) rfl ?_
            rw [hy3.out]
            refine ⟨t1, v1, a1, c1, L1, d, s, rfl, (fun h => by cases h), ?_⟩
            repeat (first | (with_reducible exact HB2.out) | (with_reducible refine Below.setCell ?_ ?_ _; rotate_left; ((try simp) <;> (try omega))) | (with_reducible refine Below.alloc ?_ ?_ _; rotate_left; ((try simp) <;> (try omega))) | (with_reducible refine Below.drew ?_) | (with_reducible refine Below.trans ?_ (below_drewN _ _ _)))
      case some x =>
        obtain ⟨t9, v9, L9⟩ := x
        have hok := stOK_facts (apV_ok hap)
        have hl9 : L9.length ≤ 60 := hok.2.2.2.2.1
        have HS9 : Hid (∀ e ∈ L9, e.2.size ≤ 65536) := Lib.hid fun e he => by have := hok.2.2.2.2.2 e he; omega
        clear hok
        have HAPE := Lib.hid hap
        clear hap
        have rq_0_0 : ∀ x, (wr.alloc x).cell? ⟨w.heap.size, 0, none⟩ = some (.string d) := fun x => by
          rw [World.cell?_alloc_lt _ _ _ (by show w.heap.size < _; omega)]
          exact q_0_0
        have rq_0_1 : ∀ x, (wr.alloc x).cell? ⟨w.heap.size, 1, none⟩ = some (.int .i64 s) := fun x => by
          rw [World.cell?_alloc_lt _ _ _ (by show w.heap.size < _; omega)]
          exact q_0_1
        have rq_1_0 : ∀ x, (wr.alloc x).cell? ⟨w.heap.size + 1, 0, none⟩ = some (.int .i64 0) := fun x => by
          rw [World.cell?_alloc_lt _ _ _ (by show w.heap.size + 1 < _; omega)]
          exact q_1_0
        have rq_1_1 : ∀ x, (wr.alloc x).cell? ⟨w.heap.size + 1, 1, none⟩ = some (.int .i64 0) := fun x => by
          rw [World.cell?_alloc_lt _ _ _ (by show w.heap.size + 1 < _; omega)]
          exact q_1_1
        have rq_1_2 : ∀ x, (wr.alloc x).cell? ⟨w.heap.size + 1, 2, none⟩ = some (.slice none 0 0) := fun x => by
          rw [World.cell?_alloc_lt _ _ _ (by show w.heap.size + 1 < _; omega)]
          exact q_1_2
        have rq_2_0 : ∀ x, (wr.alloc x).cell? ⟨w.heap.size + 1 + 1, 0, none⟩ = some (.string ⟨#[]⟩) := fun x => by
          rw [World.cell?_alloc_lt _ _ _ (by show w.heap.size + 1 + 1 < _; omega)]
          exact q_2_0
        have rq_2_1 : ∀ x, (wr.alloc x).cell? ⟨w.heap.size + 1 + 1, 1, none⟩ = some (.int .i64 0) := fun x => by
          rw [World.cell?_alloc_lt _ _ _ (by show w.heap.size + 1 + 1 < _; omega)]
          exact q_2_1
        have rs_0 : ∀ x, (wr.alloc x).cell? ⟨(w1.heap.size + 1), 0, none⟩ = some (.int .i64 t1) := fun x => by
          rw [World.cell?_alloc_lt _ _ _ (by show (w1.heap.size + 1) < _; omega)]
          exact s_0
        have rs_1 : ∀ x, (wr.alloc x).cell? ⟨(w1.heap.size + 1), 1, none⟩ = some (.int .i64 v1) := fun x => by
          rw [World.cell?_alloc_lt _ _ _ (by show (w1.heap.size + 1) < _; omega)]
          exact s_1
        have rs_2 : ∀ x, (wr.alloc x).cell? ⟨(w1.heap.size + 1), 2, none⟩ = some (.slice a1 L1.length c1) := fun x => by
          rw [World.cell?_alloc_lt _ _ _ (by show (w1.heap.size + 1) < _; omega)]
          exact s_2
        have rc1 : ∀ x, (wr.alloc x).cell? ⟨bF, oF + k, none⟩ = some (.string r) := fun x => by
          rw [World.cell?_alloc_lt _ _ _ (by show bF < _; omega)]
          exact c1'
        have rf_1 : ∀ x o, (wr.alloc x).frozen? ⟨w.heap.size + 1, o, none⟩ = false := fun x o => by
          rw [((Below.refl _ _).alloc (Nat.le_refl _) _ : Below _ _ _).frozen (p := ⟨w.heap.size + 1, o, none⟩) (by show w.heap.size + 1 < _; omega)]
          exact f_1 o
        have rf_2 : ∀ x o, (wr.alloc x).frozen? ⟨w.heap.size + 1 + 1, o, none⟩ = false := fun x o => by
          rw [((Below.refl _ _).alloc (Nat.le_refl _) _ : Below _ _ _).frozen (p := ⟨w.heap.size + 1 + 1, o, none⟩) (by show w.heap.size + 1 + 1 < _; omega)]
          exact f_2 o
        have rsf : ∀ x o, (wr.alloc x).frozen? ⟨(w1.heap.size + 1), o, none⟩ = false := fun x o => by
          rw [((Below.refl _ _).alloc (Nat.le_refl _) _ : Below _ _ _).frozen (p := ⟨(w1.heap.size + 1), o, none⟩) (by show (w1.heap.size + 1) < _; omega)]
          exact sf o
        have hwn0 : ¬ wr.heap.size = w.heap.size := by omega
        have hwm0 : ¬ w.heap.size = wr.heap.size := by omega
        have hwn1 : ¬ wr.heap.size = w.heap.size + 1 := by omega
        have hwm1 : ¬ w.heap.size + 1 = wr.heap.size := by omega
        have hwn2 : ¬ wr.heap.size = w.heap.size + 1 + 1 := by omega
        have hwm2 : ¬ w.heap.size + 1 + 1 = wr.heap.size := by omega
        have hwn3 : ¬ wr.heap.size = (w1.heap.size + 1) := by omega
        have hwm3 : ¬ (w1.heap.size + 1) = wr.heap.size := by omega
        have hwn4 : ¬ wr.heap.size = bF := by omega
        have hwm4 : ¬ bF = wr.heap.size := by omega
        go_wp2_with fail
        go_region_held3 (fun w' => w'.cell? ⟨(w1.heap.size + 1), 0, none⟩ = some (.int .i64 t1) ∧ w'.cell? ⟨(w1.heap.size + 1), 1, none⟩ = some (.int .i64 v1) ∧ w'.cell? ⟨(w1.heap.size + 1), 2, none⟩ = some (.slice a1 L1.length c1) ∧ w'.cell? ⟨bF, oF + k, none⟩ = some (.string r))
          (first | ((repeat' apply And.intro) <;> (first | (simp [go_sem, s_0, s_1, s_2, c1', rs_0, rs_1, rs_2, rc1, sf, rsf, hwn3, hwm3, hwn4, hwm4]; done) | (simp [go_sem, s_0, s_1, s_2, c1', rs_0, rs_1, rs_2, rc1, sf, rsf, hwn3, hwm3, hwn4, hwm4, ns_0, ns_1, ns_2, nc1, hw2b, hw2F, u_0, u_1, u_2, uf]; done) | (simp [go_sem, s_0, s_1, s_2, c1', rs_0, rs_1, rs_2, rc1, sf, rsf, hwn3, hwm3, hwn4, hwm4, ns_0, ns_1, ns_2, nc1, hw2b, hw2F]; done))) | go_keep)
          (first
            | (go_at_call 66
               refine (HAP.out ((wr.alloc (.cells #[.int .i64 0, .int .i64 0, .slice none 0 0] 60)).drew) (((Below.refl _ _).alloc (Nat.le_refl _) _).drew)).mono ?_
               rw [HAPE.out]
               rintro e w2 ⟨t2, v2, a2, c2, L2, rfl, hx2, hb2⟩
               have hz2 := hb2.size
               simp only [World.size_drew, World.size_alloc] at hz2
               have hw2b : (w1.heap.size + 1) < w2.heap.size := by omega
               have hw2F : bF < w2.heap.size := by omega
               have ns_0 : w2.cell? ⟨(w1.heap.size + 1), 0, none⟩ = some (.int .i64 t1) := (hb2.cell (p := ⟨(w1.heap.size + 1), 0, none⟩) (by show (w1.heap.size + 1) < (World.drew (World.alloc wr _)).heap.size; rw [World.size_drew, World.size_alloc]; omega)).trans (rs_0 _)
               have ns_1 : w2.cell? ⟨(w1.heap.size + 1), 1, none⟩ = some (.int .i64 v1) := (hb2.cell (p := ⟨(w1.heap.size + 1), 1, none⟩) (by show (w1.heap.size + 1) < (World.drew (World.alloc wr _)).heap.size; rw [World.size_drew, World.size_alloc]; omega)).trans (rs_1 _)
               have ns_2 : w2.cell? ⟨(w1.heap.size + 1), 2, none⟩ = some (.slice a1 L1.length c1) := (hb2.cell (p := ⟨(w1.heap.size + 1), 2, none⟩) (by show (w1.heap.size + 1) < (World.drew (World.alloc wr _)).heap.size; rw [World.size_drew, World.size_alloc]; omega)).trans (rs_2 _)
               have nc1 : w2.cell? ⟨bF, oF + k, none⟩ = some (.string r) := (hb2.cell (p := ⟨bF, oF + k, none⟩) (by show bF < (World.drew (World.alloc wr _)).heap.size; rw [World.size_drew, World.size_alloc]; omega)).trans (rc1 _)
               have u_0 : w2.cell? ⟨wr.heap.size, 0, none⟩ = some (.int .i64 0) := (hb2.cell (p := ⟨wr.heap.size, 0, none⟩) (by show wr.heap.size < (World.drew (World.alloc wr _)).heap.size; rw [World.size_drew, World.size_alloc]; omega)).trans (World.cell?_alloc_new wr _ _ _)
               have u_1 : w2.cell? ⟨wr.heap.size, 1, none⟩ = some (.int .i64 0) := (hb2.cell (p := ⟨wr.heap.size, 1, none⟩) (by show wr.heap.size < (World.drew (World.alloc wr _)).heap.size; rw [World.size_drew, World.size_alloc]; omega)).trans (World.cell?_alloc_new wr _ _ _)
               have u_2 : w2.cell? ⟨wr.heap.size, 2, none⟩ = some (.slice none 0 0) := (hb2.cell (p := ⟨wr.heap.size, 2, none⟩) (by show wr.heap.size < (World.drew (World.alloc wr _)).heap.size; rw [World.size_drew, World.size_alloc]; omega)).trans (World.cell?_alloc_new wr _ _ _)
               have uf : ∀ o, w2.frozen? ⟨wr.heap.size, o, none⟩ = false := fun o => (hb2.frozen (p := ⟨wr.heap.size, o, none⟩) (by show wr.heap.size < (World.drew (World.alloc wr _)).heap.size; rw [World.size_drew, World.size_alloc]; omega)).trans (by simp [go_sem]))
            | (go_at_call 66
               refine (HAP.out wr.drew ((Below.refl _ _).drew)).mono ?_
               rw [HAPE.out]
               rintro e w2 ⟨t2, v2, a2, c2, L2, rfl, hx2, hb2⟩
               have hz2 := hb2.size
               simp only [World.size_drew] at hz2
               have hw2b : (w1.heap.size + 1) < w2.heap.size := by omega
               have hw2F : bF < w2.heap.size := by omega
               have ns_0 : w2.cell? ⟨(w1.heap.size + 1), 0, none⟩ = some (.int .i64 t1) := (hb2.cell (p := ⟨(w1.heap.size + 1), 0, none⟩) (by show (w1.heap.size + 1) < wr.heap.size; omega)).trans (s_0)
               have ns_1 : w2.cell? ⟨(w1.heap.size + 1), 1, none⟩ = some (.int .i64 v1) := (hb2.cell (p := ⟨(w1.heap.size + 1), 1, none⟩) (by show (w1.heap.size + 1) < wr.heap.size; omega)).trans (s_1)
               have ns_2 : w2.cell? ⟨(w1.heap.size + 1), 2, none⟩ = some (.slice a1 L1.length c1) := (hb2.cell (p := ⟨(w1.heap.size + 1), 2, none⟩) (by show (w1.heap.size + 1) < wr.heap.size; omega)).trans (s_2)
               have nc1 : w2.cell? ⟨bF, oF + k, none⟩ = some (.string r) := (hb2.cell (p := ⟨bF, oF + k, none⟩) (by show bF < wr.heap.size; omega)).trans (c1')))
        all_goals
          have HB2 : Hid (Below w.heap.size w w2) := by
            first
              | exact (HBW.out.alloc (by omega) _).drew.trans (hb2.mono (by rw [World.size_drew, World.size_alloc]; omega))
              | exact HBW.out.drew.trans (hb2.mono (by rw [World.size_drew]; omega))
          have nq_0_0 : w2.cell? ⟨w.heap.size, 0, none⟩ = some (.string d) := (hb2.cell (p := ⟨w.heap.size, 0, none⟩) (by first | (show w.heap.size < (World.drew (World.alloc wr _)).heap.size; rw [World.size_drew, World.size_alloc]; omega) | (show w.heap.size < wr.heap.size; omega))).trans (by first | exact q_0_0 | exact rq_0_0 _)
          have nq_0_1 : w2.cell? ⟨w.heap.size, 1, none⟩ = some (.int .i64 s) := (hb2.cell (p := ⟨w.heap.size, 1, none⟩) (by first | (show w.heap.size < (World.drew (World.alloc wr _)).heap.size; rw [World.size_drew, World.size_alloc]; omega) | (show w.heap.size < wr.heap.size; omega))).trans (by first | exact q_0_1 | exact rq_0_1 _)
          have nq_1_0 : w2.cell? ⟨w.heap.size + 1, 0, none⟩ = some (.int .i64 0) := (hb2.cell (p := ⟨w.heap.size + 1, 0, none⟩) (by first | (show w.heap.size + 1 < (World.drew (World.alloc wr _)).heap.size; rw [World.size_drew, World.size_alloc]; omega) | (show w.heap.size + 1 < wr.heap.size; omega))).trans (by first | exact q_1_0 | exact rq_1_0 _)
          have nq_1_1 : w2.cell? ⟨w.heap.size + 1, 1, none⟩ = some (.int .i64 0) := (hb2.cell (p := ⟨w.heap.size + 1, 1, none⟩) (by first | (show w.heap.size + 1 < (World.drew (World.alloc wr _)).heap.size; rw [World.size_drew, World.size_alloc]; omega) | (show w.heap.size + 1 < wr.heap.size; omega))).trans (by first | exact q_1_1 | exact rq_1_1 _)
          have nq_1_2 : w2.cell? ⟨w.heap.size + 1, 2, none⟩ = some (.slice none 0 0) := (hb2.cell (p := ⟨w.heap.size + 1, 2, none⟩) (by first | (show w.heap.size + 1 < (World.drew (World.alloc wr _)).heap.size; rw [World.size_drew, World.size_alloc]; omega) | (show w.heap.size + 1 < wr.heap.size; omega))).trans (by first | exact q_1_2 | exact rq_1_2 _)
          have nq_2_0 : w2.cell? ⟨w.heap.size + 1 + 1, 0, none⟩ = some (.string ⟨#[]⟩) := (hb2.cell (p := ⟨w.heap.size + 1 + 1, 0, none⟩) (by first | (show w.heap.size + 1 + 1 < (World.drew (World.alloc wr _)).heap.size; rw [World.size_drew, World.size_alloc]; omega) | (show w.heap.size + 1 + 1 < wr.heap.size; omega))).trans (by first | exact q_2_0 | exact rq_2_0 _)
          have nq_2_1 : w2.cell? ⟨w.heap.size + 1 + 1, 1, none⟩ = some (.int .i64 0) := (hb2.cell (p := ⟨w.heap.size + 1 + 1, 1, none⟩) (by first | (show w.heap.size + 1 + 1 < (World.drew (World.alloc wr _)).heap.size; rw [World.size_drew, World.size_alloc]; omega) | (show w.heap.size + 1 + 1 < wr.heap.size; omega))).trans (by first | exact q_2_1 | exact rq_2_1 _)
          have nf_1 : ∀ o, w2.frozen? ⟨w.heap.size + 1, o, none⟩ = false := fun o => (hb2.frozen (p := ⟨w.heap.size + 1, o, none⟩) (by first | (show w.heap.size + 1 < (World.drew (World.alloc wr _)).heap.size; rw [World.size_drew, World.size_alloc]; omega) | (show w.heap.size + 1 < wr.heap.size; omega))).trans (by first | exact f_1 o | exact rf_1 _ o)
          have nf_2 : ∀ o, w2.frozen? ⟨w.heap.size + 1 + 1, o, none⟩ = false := fun o => (hb2.frozen (p := ⟨w.heap.size + 1 + 1, o, none⟩) (by first | (show w.heap.size + 1 + 1 < (World.drew (World.alloc wr _)).heap.size; rw [World.size_drew, World.size_alloc]; omega) | (show w.heap.size + 1 + 1 < wr.heap.size; omega))).trans (by first | exact f_2 o | exact rf_2 _ o)
          have nsf : ∀ o, w2.frozen? ⟨(w1.heap.size + 1), o, none⟩ = false := fun o => (hb2.frozen (p := ⟨(w1.heap.size + 1), o, none⟩) (by first | (show (w1.heap.size + 1) < (World.drew (World.alloc wr _)).heap.size; rw [World.size_drew, World.size_alloc]; omega) | (show (w1.heap.size + 1) < wr.heap.size; omega))).trans (by first | exact sf o | exact rsf _ o)
          have hw2s : w.heap.size + 1 + 1 < w2.heap.size := by omega
          have hw2c : w.heap.size + 1 < w2.heap.size := by omega
          have hw2d : w.heap.size < w2.heap.size := by omega
          have mq_0_0 : ∀ x, (w2.alloc x).cell? ⟨w.heap.size, 0, none⟩ = some (.string d) := fun x => by
            rw [World.cell?_alloc_lt _ _ _ (by show w.heap.size < _; omega)]
            exact nq_0_0
          have mq_0_1 : ∀ x, (w2.alloc x).cell? ⟨w.heap.size, 1, none⟩ = some (.int .i64 s) := fun x => by
            rw [World.cell?_alloc_lt _ _ _ (by show w.heap.size < _; omega)]
            exact nq_0_1
          have mq_1_0 : ∀ x, (w2.alloc x).cell? ⟨w.heap.size + 1, 0, none⟩ = some (.int .i64 0) := fun x => by
            rw [World.cell?_alloc_lt _ _ _ (by show w.heap.size + 1 < _; omega)]
            exact nq_1_0
          have mq_1_1 : ∀ x, (w2.alloc x).cell? ⟨w.heap.size + 1, 1, none⟩ = some (.int .i64 0) := fun x => by
            rw [World.cell?_alloc_lt _ _ _ (by show w.heap.size + 1 < _; omega)]
            exact nq_1_1
          have mq_1_2 : ∀ x, (w2.alloc x).cell? ⟨w.heap.size + 1, 2, none⟩ = some (.slice none 0 0) := fun x => by
            rw [World.cell?_alloc_lt _ _ _ (by show w.heap.size + 1 < _; omega)]
            exact nq_1_2
          have mq_2_0 : ∀ x, (w2.alloc x).cell? ⟨w.heap.size + 1 + 1, 0, none⟩ = some (.string ⟨#[]⟩) := fun x => by
            rw [World.cell?_alloc_lt _ _ _ (by show w.heap.size + 1 + 1 < _; omega)]
            exact nq_2_0
          have mq_2_1 : ∀ x, (w2.alloc x).cell? ⟨w.heap.size + 1 + 1, 1, none⟩ = some (.int .i64 0) := fun x => by
            rw [World.cell?_alloc_lt _ _ _ (by show w.heap.size + 1 + 1 < _; omega)]
            exact nq_2_1
          have ms_0 : ∀ x, (w2.alloc x).cell? ⟨(w1.heap.size + 1), 0, none⟩ = some (.int .i64 t1) := fun x => by
            rw [World.cell?_alloc_lt _ _ _ (by show (w1.heap.size + 1) < _; omega)]
            exact ns_0
          have ms_1 : ∀ x, (w2.alloc x).cell? ⟨(w1.heap.size + 1), 1, none⟩ = some (.int .i64 v1) := fun x => by
            rw [World.cell?_alloc_lt _ _ _ (by show (w1.heap.size + 1) < _; omega)]
            exact ns_1
          have ms_2 : ∀ x, (w2.alloc x).cell? ⟨(w1.heap.size + 1), 2, none⟩ = some (.slice a1 L1.length c1) := fun x => by
            rw [World.cell?_alloc_lt _ _ _ (by show (w1.heap.size + 1) < _; omega)]
            exact ns_2
          have mf_1 : ∀ x o, (w2.alloc x).frozen? ⟨w.heap.size + 1, o, none⟩ = false := fun x o => by
            rw [((Below.refl _ _).alloc (Nat.le_refl _) _ : Below _ _ _).frozen (p := ⟨w.heap.size + 1, o, none⟩) (by show w.heap.size + 1 < _; omega)]
            exact nf_1 o
          have mf_2 : ∀ x o, (w2.alloc x).frozen? ⟨w.heap.size + 1 + 1, o, none⟩ = false := fun x o => by
            rw [((Below.refl _ _).alloc (Nat.le_refl _) _ : Below _ _ _).frozen (p := ⟨w.heap.size + 1 + 1, o, none⟩) (by show w.heap.size + 1 + 1 < _; omega)]
            exact nf_2 o
          have msf : ∀ x o, (w2.alloc x).frozen? ⟨(w1.heap.size + 1), o, none⟩ = false := fun x o => by
            rw [((Below.refl _ _).alloc (Nat.le_refl _) _ : Below _ _ _).frozen (p := ⟨(w1.heap.size + 1), o, none⟩) (by show (w1.heap.size + 1) < _; omega)]
            exact nsf o
          obtain ⟨hx3, hf2⟩ := hx2 _ rfl
          cases hx3
          clear hx2
          have HL2 : Hid (Fresh entE 76 2 wr.heap.size (.slice a2 L9.length c2) L9 w2) := Lib.hid (Fresh.mono hf2 (by first | (rw [World.size_drew, World.size_alloc]; omega) | (rw [World.size_drew]; omega)))
          try have hNw := ownNe_alloc hf2
          have HF2 : Hid (FreshIn strE 9 1 (w.heap.size + 3) w1.heap.size (.slice (some ⟨bF, oF, none⟩) F.length cF) F w2) := by
            first
              | exact (HFF.out.alloc _).drew.below hb2
              | exact HFF.out.drew.below hb2
          clear hf2
          have hT9 : Hid (rcL (t9, v9, L9) (F.drop (k + 1)) = rcL (0, -1, []) F) := by
            show _ = _
            rw [← hT.out, HDR.out, rcL_some HAPE.out]
        all_goals
          go_wp2_with fail
          go_roundw
          case rel =>
            have hN9 : (Value.slice a2 L9.length c2).ownBlock ≠ some (w1.heap.size + 1) := fun h => by
              have := (HL2.out.lt h).1
              omega
            refine ⟨k + 1, t9, v9, a2, c2, L9, by omega, by go_num, hT9, hl9, HS9, ?_, ?_, ?_, ?_, ?_, ?_, ?_, ?_, ?_, ?_, ?_, ?_, ?_, ?_, hN9, ?_, ?_, ?_⟩
            · simp [go_sem, mq_0_0, mq_0_1, mq_1_0, mq_1_1, mq_1_2, mq_2_0, mq_2_1, ms_0, ms_1, ms_2, mf_1, mf_2, msf, nq_0_0, nq_0_1, nq_1_0, nq_1_1, nq_1_2, nq_2_0, nq_2_1, ns_0, ns_1, ns_2, nf_1, nf_2, nsf, hw2b, hw2s, hw2c, hw2d, hwn0, hwm0, hwn1, hwm1, hwn2, hwm2, hwn3, hwm3, hwn4, hwm4, hne1, hne2, hne3, hne4, hne5, hne6]
            · simp [go_sem, mq_0_0, mq_0_1, mq_1_0, mq_1_1, mq_1_2, mq_2_0, mq_2_1, ms_0, ms_1, ms_2, mf_1, mf_2, msf, nq_0_0, nq_0_1, nq_1_0, nq_1_1, nq_1_2, nq_2_0, nq_2_1, ns_0, ns_1, ns_2, nf_1, nf_2, nsf, hw2b, hw2s, hw2c, hw2d, hwn0, hwm0, hwn1, hwm1, hwn2, hwm2, hwn3, hwm3, hwn4, hwm4, hne1, hne2, hne3, hne4, hne5, hne6]
            · simp [go_sem, mq_0_0, mq_0_1, mq_1_0, mq_1_1, mq_1_2, mq_2_0, mq_2_1, ms_0, ms_1, ms_2, mf_1, mf_2, msf, nq_0_0, nq_0_1, nq_1_0, nq_1_1, nq_1_2, nq_2_0, nq_2_1, ns_0, ns_1, ns_2, nf_1, nf_2, nsf, hw2b, hw2s, hw2c, hw2d, hwn0, hwm0, hwn1, hwm1, hwn2, hwm2, hwn3, hwm3, hwn4, hwm4, hne1, hne2, hne3, hne4, hne5, hne6]
            · intro o
              simp [go_sem, mq_0_0, mq_0_1, mq_1_0, mq_1_1, mq_1_2, mq_2_0, mq_2_1, ms_0, ms_1, ms_2, mf_1, mf_2, msf, nq_0_0, nq_0_1, nq_1_0, nq_1_1, nq_1_2, nq_2_0, nq_2_1, ns_0, ns_1, ns_2, nf_1, nf_2, nsf, hw2b, hw2s, hw2c, hw2d, hwn0, hwm0, hwn1, hwm1, hwn2, hwm2, hwn3, hwm3, hwn4, hwm4, hne1, hne2, hne3, hne4, hne5, hne6]
            · simp [go_sem, mq_0_0, mq_0_1, mq_1_0, mq_1_1, mq_1_2, mq_2_0, mq_2_1, ms_0, ms_1, ms_2, mf_1, mf_2, msf, nq_0_0, nq_0_1, nq_1_0, nq_1_1, nq_1_2, nq_2_0, nq_2_1, ns_0, ns_1, ns_2, nf_1, nf_2, nsf, hw2b, hw2s, hw2c, hw2d, hwn0, hwm0, hwn1, hwm1, hwn2, hwm2, hwn3, hwm3, hwn4, hwm4, hne1, hne2, hne3, hne4, hne5, hne6]
            · simp [go_sem, mq_0_0, mq_0_1, mq_1_0, mq_1_1, mq_1_2, mq_2_0, mq_2_1, ms_0, ms_1, ms_2, mf_1, mf_2, msf, nq_0_0, nq_0_1, nq_1_0, nq_1_1, nq_1_2, nq_2_0, nq_2_1, ns_0, ns_1, ns_2, nf_1, nf_2, nsf, hw2b, hw2s, hw2c, hw2d, hwn0, hwm0, hwn1, hwm1, hwn2, hwm2, hwn3, hwm3, hwn4, hwm4, hne1, hne2, hne3, hne4, hne5, hne6]
            · simp [go_sem, mq_0_0, mq_0_1, mq_1_0, mq_1_1, mq_1_2, mq_2_0, mq_2_1, ms_0, ms_1, ms_2, mf_1, mf_2, msf, nq_0_0, nq_0_1, nq_1_0, nq_1_1, nq_1_2, nq_2_0, nq_2_1, ns_0, ns_1, ns_2, nf_1, nf_2, nsf, hw2b, hw2s, hw2c, hw2d, hwn0, hwm0, hwn1, hwm1, hwn2, hwm2, hwn3, hwm3, hwn4, hwm4, hne1, hne2, hne3, hne4, hne5, hne6]
            · simp [go_sem, mq_0_0, mq_0_1, mq_1_0, mq_1_1, mq_1_2, mq_2_0, mq_2_1, ms_0, ms_1, ms_2, mf_1, mf_2, msf, nq_0_0, nq_0_1, nq_1_0, nq_1_1, nq_1_2, nq_2_0, nq_2_1, ns_0, ns_1, ns_2, nf_1, nf_2, nsf, hw2b, hw2s, hw2c, hw2d, hwn0, hwm0, hwn1, hwm1, hwn2, hwm2, hwn3, hwm3, hwn4, hwm4, hne1, hne2, hne3, hne4, hne5, hne6]
            · simp [go_sem, mq_0_0, mq_0_1, mq_1_0, mq_1_1, mq_1_2, mq_2_0, mq_2_1, ms_0, ms_1, ms_2, mf_1, mf_2, msf, nq_0_0, nq_0_1, nq_1_0, nq_1_1, nq_1_2, nq_2_0, nq_2_1, ns_0, ns_1, ns_2, nf_1, nf_2, nsf, hw2b, hw2s, hw2c, hw2d, hwn0, hwm0, hwn1, hwm1, hwn2, hwm2, hwn3, hwm3, hwn4, hwm4, hne1, hne2, hne3, hne4, hne5, hne6]
            · simp [go_sem, mq_0_0, mq_0_1, mq_1_0, mq_1_1, mq_1_2, mq_2_0, mq_2_1, ms_0, ms_1, ms_2, mf_1, mf_2, msf, nq_0_0, nq_0_1, nq_1_0, nq_1_1, nq_1_2, nq_2_0, nq_2_1, ns_0, ns_1, ns_2, nf_1, nf_2, nsf, hw2b, hw2s, hw2c, hw2d, hwn0, hwm0, hwn1, hwm1, hwn2, hwm2, hwn3, hwm3, hwn4, hwm4, hne1, hne2, hne3, hne4, hne5, hne6]
            · simp [go_sem, mq_0_0, mq_0_1, mq_1_0, mq_1_1, mq_1_2, mq_2_0, mq_2_1, ms_0, ms_1, ms_2, mf_1, mf_2, msf, nq_0_0, nq_0_1, nq_1_0, nq_1_1, nq_1_2, nq_2_0, nq_2_1, ns_0, ns_1, ns_2, nf_1, nf_2, nsf, hw2b, hw2s, hw2c, hw2d, hwn0, hwm0, hwn1, hwm1, hwn2, hwm2, hwn3, hwm3, hwn4, hwm4, hne1, hne2, hne3, hne4, hne5, hne6]
            · intro o
              simp [go_sem, mq_0_0, mq_0_1, mq_1_0, mq_1_1, mq_1_2, mq_2_0, mq_2_1, ms_0, ms_1, ms_2, mf_1, mf_2, msf, nq_0_0, nq_0_1, nq_1_0, nq_1_1, nq_1_2, nq_2_0, nq_2_1, ns_0, ns_1, ns_2, nf_1, nf_2, nsf, hw2b, hw2s, hw2c, hw2d, hwn0, hwm0, hwn1, hwm1, hwn2, hwm2, hwn3, hwm3, hwn4, hwm4, hne1, hne2, hne3, hne4, hne5, hne6]
            · intro o
              simp [go_sem, mq_0_0, mq_0_1, mq_1_0, mq_1_1, mq_1_2, mq_2_0, mq_2_1, ms_0, ms_1, ms_2, mf_1, mf_2, msf, nq_0_0, nq_0_1, nq_1_0, nq_1_1, nq_1_2, nq_2_0, nq_2_1, ns_0, ns_1, ns_2, nf_1, nf_2, nsf, hw2b, hw2s, hw2c, hw2d, hwn0, hwm0, hwn1, hwm1, hwn2, hwm2, hwn3, hwm3, hwn4, hwm4, hne1, hne2, hne3, hne4, hne5, hne6]
            · refine Fresh.mono (B := wr.heap.size) ?_ (by omega)
              repeat (first | (with_reducible exact HL2.out) | (with_reducible refine Fresh.setNe ?_ hN9 _ _) | (with_reducible refine Fresh.setNe ?_ hNw _ _) | (with_reducible refine Fresh.alloc ?_ _))
            · repeat (first | (with_reducible exact HF2.out) | (with_reducible refine FreshIn.setHi ?_ ?_ _; rotate_left; ((try simp) <;> (try omega))) | (with_reducible refine FreshIn.alloc ?_ _))
            · repeat (first | (with_reducible exact HB2.out) | (with_reducible refine Below.setCell ?_ ?_ _; rotate_left; ((try simp) <;> (try omega))) | (with_reducible refine Below.alloc ?_ ?_ _; rotate_left; ((try simp) <;> (try omega))) | (with_reducible refine Below.drew ?_) | (with_reducible refine Below.trans ?_ (below_drewN _ _ _)))
            · simp; omega
          case measure => simp [intOf]; omega
    · obtain rfl : k = F.length := by omega
      have hy0 := Lib.hid (HY.out.trans (rvX_ok d H8.out (st := (t1, v1, L1)) (by rw [← hT.out, List.drop_length, rcL_nil])))
      have hns : (n : Int) ≤ (d.size : Int) := by omega
      have hn0 : (0 : Int) ≤ (n : Int) := by omega
      go_wp2_with fail
      go_region_held3 (fun w' => w'.cell? ⟨(w1.heap.size + 1), 0, none⟩ = some (.int .i64 t1) ∧ w'.cell? ⟨(w1.heap.size + 1), 1, none⟩ = some (.int .i64 v1) ∧ w'.cell? ⟨(w1.heap.size + 1), 2, none⟩ = some (.slice a1 L1.length c1) ∧ w'.cell? ⟨w.heap.size, 0, none⟩ = some (.string d))
        (first | ((repeat' apply And.intro) <;> (first | (simp [go_sem, s_0, s_1, s_2, q_0_0, hne1, hne2, hne3, hne4, hne5, hne6]; done))) | go_keep)
        (fail)
      all_goals
        go_wp2_with fail
        refine bodyPost_ret (v := .tuple #[.agg #[.int .i64 t1, .int .i64 v1, .slice a1 L1.length c1], .agg #[.string (d.extract 0 n), .int .i64 n], .int .i64 0]) (by simp [results, Try.results33, go_sem, q_1_0, q_1_1, q_1_2, q_2_0, q_2_1, f_1, f_2]) rfl ?_
        rw [hy0.out]
        refine ⟨t1, v1, a1, c1, L1, d.extract 0 n, n, rfl, (fun _ => ⟨rfl, ?_⟩), ?_⟩
        · refine Fresh.mono (B := w.heap.size + 3) ?_ (by omega)
          repeat (first | (with_reducible exact HL.out) | (with_reducible refine Fresh.setCell ?_ ?_ _; rotate_left; ((try simp) <;> (try omega))) | (with_reducible refine Fresh.drew ?_))
        · repeat (first | (with_reducible exact HBW.out) | (with_reducible refine Below.setCell ?_ ?_ _; rotate_left; ((try simp) <;> (try omega))) | (with_reducible refine Below.alloc ?_ ?_ _; rotate_left; ((try simp) <;> (try omega))) | (with_reducible refine Below.drew ?_) | (with_reducible refine Below.trans ?_ (below_drewN _ _ _)))
end
section
open Go.RowKit
noncomputable def rcO (d : ByteArray) (s : Int) : RvT := if storeOK d s = true then rvAll d else ((0, 0, []), (⟨#[]⟩, 0), 1)
theorem rcO_length (d : ByteArray) (s : Int) : (rcO d s).1.2.2.length ≤ 60 := by
  unfold rcO
  split
  · exact rvX_length _ _
  · simp
theorem rvX_code (d : ByteArray) (x : List ByteArray × Nat × Int) (h : (rvX d x).2.2 ≠ 0) : rvX d x = ((0, 0, []), (⟨#[]⟩, 0), (rvX d x).2.2) := by
  unfold rvX at h ⊢
  split
  · simp
  · next h8 =>
    rw [if_neg h8] at h
    cases hr : rcL (0, -1, []) x.1 with
    | none => simp
    | some st =>
      rw [hr] at h
      exact absurd rfl h
end
end Go.Proofs.Ytckaccadgbcohaa
