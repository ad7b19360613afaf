/- laws.sameTexts on equal lists. No conditions but sizes. -/
import Derived.Test.YtmdjcoeijlnloaaScalar
import Derived.Test.YtmdjcoeijlnloaaSl
import Derived.Lib.Hide
import Derived.BigQuiet
namespace Go.Proofs.Ytmdjcoeijlnloaa
set_option linter.unusedVariables false
set_option linter.unusedSimpArgs false
open Go.RowKit
set_option maxRecDepth 100000 in
set_option maxHeartbeats 4000000 in
theorem sameTexts_c (a b : Option Addr) (ca cb : Nat) (xs : List ByteArray) (w : World) (ha : Sl strE 1 w a xs) (hb : Sl strE 1 w b xs) (la : xs.length ≤ 1048576) :
    Calls Try.prog 25 #[.slice a xs.length ca, .slice b xs.length cb] w fun e w' => e = .returned (.bool true) ∧ Below w.heap.size w w' := by
  have HA := Lib.hid ha
  have HB := Lib.hid hb
  clear ha hb
  go_enter Try.func25, Try.ntmps25
  go_wp2_with fail
  go_loopw [5] (fun i wr => ∃ k : Nat, k ≤ xs.length ∧ i = .int .i64 k ∧ Below w.heap.size w wr) (fun i _ => xs.length - (intOf i).toNat)
  case atStart => exact ⟨0, Nat.zero_le _, rfl, Below.refl _ _⟩
  case round =>
    obtain ⟨k, hk, rfl, hbel⟩ := hrel
    have HW := Lib.hid hbel
    by_cases hlt : k < xs.length
    · obtain ⟨b1, o1, rfl, _, hc1⟩ := (HA.out.keep hbel).at hlt
      obtain ⟨b2, o2, rfl, _, hc2⟩ := (HB.out.keep hbel).at hlt
      have d1 := hc1 k hlt 0 (by omega)
      have d2 := hc2 k hlt 0 (by omega)
      simp only [strE, Nat.mul_one, Nat.add_zero, List.getElem?_cons_zero] at d1 d2
      have hi0 : (0 : Int) ≤ (k : Int) := by omega
      have hi1 : (k : Int) < (xs.length : Int) := by omega
      clear hc1 hc2 hbel
      generalize xs[k] = s at *
      go_wp2_with fail
      go_quiet (fail)
      go_wp2_with fail
      go_roundw
      case rel => exact ⟨k + 1, by omega, by go_num, HW.out.trans (below_drewN _ _ _)⟩
      case measure => simp [intOf]; omega
    · obtain rfl : k = xs.length := by omega
      go_wp2_with fail
      go_ret
      exact ⟨rfl, HW.out⟩
end Go.Proofs.Ytmdjcoeijlnloaa
