/- One frame: impl.frameOf and spec.l02Frame make the same bytes. No conditions but sizes. -/
import Derived.Test.YtmkgmecpjppgcaaBytes
import Derived.Test.YtmkgmecpjppgcaaCrc
namespace Go.Proofs.Ytmkgmecpjppgcaa
set_option linter.unusedVariables false
set_option linter.unusedSimpArgs false
open Go.RowKit
def hdr (s : ByteArray) : List UInt8 := be s.size 3
def frmL (s : ByteArray) : List UInt8 := hdr s ++ be (crc (hdr s ++ s.data.toList)) 4 ++ s.data.toList
def frmB (s : ByteArray) : ByteArray := strOf (frmL s)
theorem strOf_append (a b : List UInt8) : strOf a ++ strOf b = strOf (a ++ b) := by
  unfold strOf
  apply ByteArray.ext
  simp
theorem strOf_data (s : ByteArray) : strOf s.data.toList = s := rfl
theorem strOf_toList (l : List UInt8) : (strOf l).data.toList = l := rfl
theorem strOf_size (l : List UInt8) : (strOf l).size = l.length := rfl
theorem hdr_length (s : ByteArray) : (hdr s).length = 3 := be_length _ _
theorem frmL_length (s : ByteArray) : (frmL s).length = s.size + 7 := by
  simp [frmL, hdr_length, be_length]; omega
theorem byteOne : ∀ (x : UInt8), ∀ u ∈ byteE x, u.oneCell' = true := fun x u hu => by simp [byteE] at hu; subst hu; rfl
theorem sizeData (s : ByteArray) : s.data.toList.length = s.size := rfl
set_option maxHeartbeats 1000000 in
theorem frameOf_c (s : ByteArray) (w : World) (hs : s.size ≤ 1048576) :
    Calls Try.prog 75 #[.string s] w fun e w' => e = .returned (.string (frmB s)) ∧ Below w.heap.size w w' := by
  go_enter Try.func75, Try.ntmps75
  go_wp2_with fail
  refine (bigBytes_c s.size 3 _ (by omega) (by omega)).mono ?_
  rintro e w1 ⟨rfl, hb1⟩
  have hz1 := hb1.size
  have hsa : (strOf (be s.size 3)).size ≤ 3 := by rw [strOf_size, be_length]; omega
  have hsz : (strOf (be s.size 3) ++ s).size ≤ 1048579 := by rw [ByteArray.size_append, strOf_size, be_length]; omega
  generalize hA : strOf (be s.size 3) = A at *
  have HA := Lib.hid hA
  clear hA
  go_wp2_with fail
  refine (check32_c (A ++ s) _ (by omega)).mono ?_
  rintro e w2 ⟨rfl, rfl⟩
  have hcr := crc_lt (A ++ s).data.toList
  generalize hC : crc (A ++ s).data.toList = C at *
  have HC := Lib.hid hC
  clear hC
  go_wp2_with fail
  refine (bigBytes_c C 4 _ (by omega) (by omega)).mono ?_
  rintro e w3 ⟨rfl, hb3⟩
  have hsb : (strOf (be C 4)).size ≤ 4 := by rw [strOf_size, be_length]; omega
  generalize hD : strOf (be C 4) = D at *
  have HD := Lib.hid hD
  clear hD
  go_wp2_with fail
  go_ret
  refine ⟨?_, hb1.trans (hb3.mono hz1)⟩
  show Ending.returned (.string (A ++ D ++ s)) = _
  rw [← HD.out, ← HC.out, ← HA.out, ← strOf_data s, strOf_append, strOf_append, strOf_append]
  rfl
set_option maxRecDepth 100000 in
set_option maxHeartbeats 2000000 in
theorem l02Frame_c (s : ByteArray) (w : World) (hs : s.size ≤ 1048576) :
    Calls Try.prog 72 #[.string s] w (FreshR byteE 5 1 w (frmL s)) := by
  obtain ⟨i0, hi, hz0, hz1, hz2⟩ := info_parts Try.infoByte
  have hdl := sizeData s
  go_enter Try.func72, Try.ntmps72
  go_wp2_with fail
  refine (l02Number_c s.size 3 _ (by omega) (by omega)).mono ?_
  rintro e w1 ⟨v1, rfl, hf1, hb1⟩
  obtain ⟨a1, c1, rfl, hc1, ho1⟩ := id hf1
  have hl3 : (be s.size 3).length = 3 := be_length _ _
  have HL3 := Lib.hid hl3
  have hl3' : (be s.size 3).length ≤ 3 := by omega
  have HF1 := Lib.hid hf1.here
  have hs1 : Sl byteE 1 w1 a1 (be s.size 3) := Sl.of_own (fun _ => rfl) ho1
  have hz1' := hb1.size
  have HB1 := Lib.hid hb1
  clear hl3 hf1 ho1 hb1
  generalize hh : be s.size 3 = H3 at *
  have HH := Lib.hid hh
  clear hh
  go_wp2_with (first
    | (skip
       at_builtin
       refine wpList_append_fresh rfl (.tmp 8) (.tmp 9) 55 55 rfl (w1.heap.size) (w1.heap.size + 1) 5 i0 (.int .u8 0) 1 1 Try.underlying55 hi hz0 hz1 hz2 rfl (by decide) (.slice (some ⟨w1.heap.size, 0, none⟩) 0 0) ([]) rfl (FreshIn.of_owns (World.ownsRow_made w1 #[] 0 (Nat.le_refl _) (by decide) rfl) rfl rfl (by omega)) _ (H3) rfl (Src.ofSl (enc := byteE) Try.underlying55 (fun _ => rfl) byteOne (hs1.alloc _) _) (by (try simp) <;> (try omega)) (by (try simp) <;> (try omega)) ?_
       intro a2 c2 w2 L2 hL2 hf2 hm2
       have hz2' := hm2.size
       simp only [World.size_alloc] at hz2'
       have hl2 : L2.length ≤ 3 := by rw [hL2.out]; simpa using hl3')
    | (skip
       at_builtin
       refine wpList_append_fresh rfl (.tmp 10) (.tmp 11) 55 9 rfl (w1.heap.size) (w2.heap.size) 5 i0 (.int .u8 0) 1 1 Try.underlying55 hi hz0 hz1 hz2 rfl (by decide) (.slice a2 L2.length c2) (L2) rfl (hf2) _ (s.data.toList) rfl (Src.ofStr Try.underlying9 s) (by (try simp) <;> (try omega)) (by (try simp) <;> (try omega)) ?_
       intro a3 c3 w3 L3 hL3 hf3 hm3
       have hz3' := hm3.size
       have hl4 : L3.length ≤ 1048579 := by rw [hL3.out, List.length_append]; omega
       have hcr := crc_lt L3)
    | (go_at_call 102
       refine (l01Check_c a3 c3 L3 _ (hf3.sl fun _ => rfl) (by omega)).mono ?_
       rintro e w4 ⟨rfl, rfl⟩)
    | (go_at_call 101
       refine (l02Number_c (crc L3) 4 _ (by omega) (by omega)).mono ?_
       rintro e w5 ⟨v5, rfl, hf5, hb5⟩
       obtain ⟨a5, c5, rfl, hc5, ho5⟩ := id hf5
       have hs5 : Sl byteE 1 w5 a5 (be (crc L3) 4) := Sl.of_own (fun _ => rfl) ho5
       have HL5 : Hid ((be (crc L3) 4).length = 4) := be_length _ _
       have hl5' : (be (crc L3) 4).length ≤ 4 := by rw [HL5.out]; omega
       have hz5' := hb5.size
       have hF1 : FreshIn byteE 5 1 w.heap.size w1.heap.size (.slice a1 H3.length c1) H3 w5 := (((HF1.out.below ((Below.refl _ _).alloc (Nat.le_refl _) _)).mid hm2 (.inl (Nat.le_refl _))).mid hm3 (.inl (Nat.le_refl _))).below hb5
       clear hf5 ho5
       generalize hh5 : be (crc L3) 4 = H5 at *
       have HH5 := Lib.hid hh5
       clear hh5)
    | (skip
       at_builtin
       refine wpList_append_fresh rfl (.tmp 7) (.tmp 14) 55 55 rfl (w.heap.size) (w1.heap.size) 5 i0 (.int .u8 0) 1 1 Try.underlying55 hi hz0 hz1 hz2 rfl (by decide) (.slice a1 H3.length c1) (H3) rfl (hF1) _ (H5) rfl (Src.ofSl (enc := byteE) Try.underlying55 (fun _ => rfl) byteOne hs5 _) (by (try simp) <;> (try omega)) (by (try simp) <;> (try omega)) ?_
       intro a6 c6 w6 L6 hL6 hf6 hm6
       have hz6' := hm6.size
       have hl6 : L6.length ≤ 7 := by rw [hL6.out, List.length_append]; omega)
    | (skip
       at_builtin
       refine wpList_append_fresh rfl (.tmp 15) (.tmp 16) 55 9 rfl (w.heap.size) (w6.heap.size) 5 i0 (.int .u8 0) 1 1 Try.underlying55 hi hz0 hz1 hz2 rfl (by decide) (.slice a6 L6.length c6) (L6) rfl (hf6) _ (s.data.toList) rfl (Src.ofStr Try.underlying9 s) (by (try simp) <;> (try omega)) (by (try simp) <;> (try omega)) ?_
       intro a7 c7 w7 L7 hL7 hf7 hm7
       skip))
  go_ret
  have hfin : L7 = frmL s := by
    rw [hL7.out, hL6.out, ← HH5.out, hL3.out, hL2.out, ← HH.out]
    rfl
  have hB5 : Below w.heap.size w w5 := by
    refine ((HB1.out.alloc (by omega) (.cells #[] 5)).trans ?_).trans (hb5.mono (by omega))
    exact (hm2.below (by omega) (by simp; omega)).trans (hm3.below (by omega) (by omega))
  rw [← hfin]
  exact ⟨_, rfl, hf7.1, (hB5.trans (hm6.below (Nat.le_refl _) (by omega))).trans (hm7.below (Nat.le_refl _) (by omega))⟩
end Go.Proofs.Ytmkgmecpjppgcaa
