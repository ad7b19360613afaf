/- One frame: impl.frameOf and spec.l02Frame make the same bytes. No conditions but sizes. -/
import Derived.Test.YtmdjcoeijlnloaaBytes
import Derived.Test.YtmdjcoeijlnloaaCrc
namespace Go.Proofs.Ytmdjcoeijlnloaa
set_option linter.unusedVariables false
set_option linter.unusedSimpArgs false
open Go.RowKit
def hdr (s : ByteArray) : List UInt8 := be s.size 3
def frmL (s : ByteArray) : List UInt8 := hdr s ++ be (crc (hdr s ++ s.data.toList)) 4 ++ s.data.toList
def frmB (s : ByteArray) : ByteArray := strOf (frmL s)
theorem strOf_append (a b : List UInt8) : strOf a ++ strOf b = strOf (a ++ b) := by
  unfold strOf
  apply ByteArray.ext
  simp
theorem strOf_data (s : ByteArray) : strOf s.data.toList = s := rfl
theorem strOf_toList (l : List UInt8) : (strOf l).data.toList = l := rfl
theorem strOf_size (l : List UInt8) : (strOf l).size = l.length := rfl
theorem hdr_length (s : ByteArray) : (hdr s).length = 3 := be_length _ _
theorem frmL_length (s : ByteArray) : (frmL s).length = s.size + 7 := by
  simp [frmL, hdr_length, be_length]; omega
theorem byteOne : ∀ (x : UInt8), ∀ u ∈ byteE x, u.oneCell' = true := fun x u hu => by simp [byteE] at hu; subst hu; rfl
theorem sizeData (s : ByteArray) : s.data.toList.length = s.size := rfl
set_option maxHeartbeats 1000000 in
theorem frameOf_c (s : ByteArray) (w : World) (hs : s.size ≤ 1048576) :
    Calls Try.prog 151 #[.string s] w fun e w' => e = .returned (.string (frmB s)) ∧ Below w.heap.size w w' := by
  go_enter Try.func151, Try.ntmps151
  go_wp2_with fail
  refine (bigBytes_c s.size 3 _ (by omega) (by omega)).mono ?_
  rintro e w1 ⟨rfl, hb1⟩
  have hz1 := hb1.size
  have hsa : (strOf (be s.size 3)).size ≤ 3 := by rw [strOf_size, be_length]; omega
  have hsz : (strOf (be s.size 3) ++ s).size ≤ 1048579 := by rw [ByteArray.size_append, strOf_size, be_length]; omega
  generalize hA : strOf (be s.size 3) = A at *
  have HA := Lib.hid hA
  clear hA
  go_wp2_with fail
  refine (check32_c (A ++ s) _ (by omega)).mono ?_
  rintro e w2 ⟨rfl, rfl⟩
  have hcr := crc_lt (A ++ s).data.toList
  generalize hC : crc (A ++ s).data.toList = C at *
  have HC := Lib.hid hC
  clear hC
  go_wp2_with fail
  refine (bigBytes_c C 4 _ (by omega) (by omega)).mono ?_
  rintro e w3 ⟨rfl, hb3⟩
  have hsb : (strOf (be C 4)).size ≤ 4 := by rw [strOf_size, be_length]; omega
  generalize hD : strOf (be C 4) = D at *
  have HD := Lib.hid hD
  clear hD
  go_wp2_with fail
  go_ret
  refine ⟨?_, hb1.trans (hb3.mono hz1)⟩
  show Ending.returned (.string (A ++ D ++ s)) = _
  rw [← HD.out, ← HC.out, ← HA.out, ← strOf_data s, strOf_append, strOf_append, strOf_append]
  rfl
end Go.Proofs.Ytmdjcoeijlnloaa
