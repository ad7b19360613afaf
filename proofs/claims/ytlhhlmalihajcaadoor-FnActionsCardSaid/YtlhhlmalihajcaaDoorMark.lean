/- laws.markText: the letter m and the digits of a number. -/
import Derived.Test.YtlhhlmalihajcaaDoorSlInt
import Derived.Test.YtlhhlmalihajcaaDoorTo
import Derived.Laws.IdiomStrings
namespace Go.Proofs.YtlhhlmalihajcaaDoor
set_option linter.unusedVariables false
set_option linter.unusedSimpArgs false
open Go.RowKit
def dig (k : Nat) : UInt8 := UInt8.ofNat (48 + k % 10)
theorem dig_toNat (k : Nat) : (dig k).toNat = 48 + k % 10 := by
  unfold dig
  rw [UInt8.toNat_ofNat']
  omega
def mtF : Nat → Nat → ByteArray → ByteArray
  | 0, _, out => out
  | f + 1, k, out => if k = 0 then out else mtF f (k / 10) (⟨#[dig k]⟩ ++ out)
theorem mtF_zero (f : Nat) (out : ByteArray) : mtF f 0 out = out := by cases f <;> rfl
def mt (k : Nat) : ByteArray := if k = 0 then ⟨#[109, 48]⟩ else ⟨#[109]⟩ ++ mtF k k ByteArray.empty
set_option maxRecDepth 100000 in
set_option maxHeartbeats 1000000 in
theorem markText_c (K : Nat) (w : World) (hK : K ≤ 1099511627776) :
    Calls Tryd.prog 49 #[.int .i64 K] w fun e w' => e = .returned (.string (mt K)) ∧ Below w.heap.size w w' := by
  by_cases h0 : K = 0
  · subst h0
    go_enter Tryd.func49, Tryd.ntmps49
    go_wp2_with fail
    go_ret
    exact ⟨rfl, Below.refl _ _⟩
  · have g1 : decide ((K : Int) ≤ 0) = false := by simp; omega
    go_enter Tryd.func49, Tryd.ntmps49
    go_wp2_with fail
    go_loopw [0, 3] (fun i o wr => ∃ (f k : Nat) (out : ByteArray), k ≤ f ∧ k ≤ 1099511627776 ∧ out.size + f ≤ K ∧ i = .int .i64 k ∧ o = .string out ∧ mtF f k out = mtF K K ByteArray.empty ∧ Below w.heap.size w wr) (fun i _ _ => (intOf i).toNat)
    case atStart => exact ⟨K, K, ByteArray.empty, Nat.le_refl _, hK, by simp, rfl, rfl, rfl, Below.refl _ _⟩
    case round =>
      obtain ⟨f, k, out, hkf, hk, hos, rfl, rfl, hm, hbel⟩ := hrel
      by_cases hk0 : k = 0
      · have g2 : decide (0 < k) = false := by simp; omega
        have hm' : out = mtF K K ByteArray.empty := by rw [← hm, hk0, mtF_zero]
        have hsz : (mtF K K ByteArray.empty).size ≤ 1099511627776 := by rw [← hm']; omega
        clear hm hk0
        go_wp2_with fail
        go_ret
        exact ⟨by rw [hm']; simp [mt, h0], hbel⟩
      · have g2 : decide (0 < k) = true := by simp; omega
        have hosz : out.size ≤ 1099511627776 := by omega
        have hconv : (convert 22 9 (.slice (some ⟨wr.heap.size, 0, none⟩) 1 1)).run Tryd.prog (wr.alloc (.cells #[.int .u8 (48 + (k : Int) % 10)] 5)) = .ok (.string ⟨#[dig k]⟩) (wr.alloc (.cells #[.int .u8 (48 + (k : Int) % 10)] 5)) := by
          refine run_convert_bytes_back (P := Tryd.prog) _ _ _ 5 ⟨wr.heap.size, 0, none⟩ 1 [dig k] Tryd.underlying22 Tryd.underlying5 Tryd.underlying9 (fun j hj => ?_)
          obtain rfl : j = 0 := by simp at hj; omega
          have hb : (dig k).toNat = 48 + k % 10 :=  dig_toNat k
          simp [go_sem, Addr.add, hb]
        have HM := Lib.hid hm
        have HO := Lib.hid hos
        have HF := Lib.hid hkf
        clear hm g1 h0 hos hkf
        go_wp2_with fail
        go_roundw
        case rel =>
          obtain ⟨f, rfl⟩ : ∃ g, f = g + 1 := ⟨f - 1, by have := HF.out; omega⟩
          have h1 := HM.out
          have h2 := HO.out
          have h3 := HF.out
          simp only [mtF, hk0, if_false] at h1
          refine ⟨f, k / 10, _, by omega, by omega, ?_, by go_num, rfl, h1, (hbel.alloc hbel.size _)⟩
          simp [ByteArray.size_append]
          have : (⟨#[dig k]⟩ : ByteArray).size = 1 := rfl
          omega
        case measure => simp [intOf]; omega
end Go.Proofs.YtlhhlmalihajcaaDoor
