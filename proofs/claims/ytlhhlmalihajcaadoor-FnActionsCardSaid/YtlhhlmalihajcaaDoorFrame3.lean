/- Opening the arguments of the laws that take bytes. -/
import Derived.Test.YtlhhlmalihajcaaDoorFrame
namespace Go.Proofs.YtlhhlmalihajcaaDoor
set_option linter.unusedVariables false
set_option linter.unusedSimpArgs false
open Go.ChangeShapes Go.WideShapes Go.ChangeAt Go.RowKit
set_option maxRecDepth 100000 in
theorem open_byteSl {H : Type} {enc' : TypeId × Value → H} {W : World} {base : Nat} {v : Value} {d : DataW H} {p : List MemPlace} (hv : Value.okWide Tryd.prog W .any base 22 v)
    (h : DataW.Trod enc' Tryd.prog W 0 (fun _ => true) true 22 v d p) : ∃ (a : Option Addr) (cap : Nat) (xs : List UInt8), v = .slice a xs.length cap ∧ xs.length ≤ 9223372036854775807 ∧ (∀ s ∈ xs, (fun _ : UInt8 => True) s) ∧ Sl byteE 1 W a xs :=
  open_sl Tryd.underlying22 (by kernel_rfl) (by decide) (fun n cs x hx => by
    obtain ⟨s, rfl, _, hs⟩ := DataW.trod_int Tryd.underlying5 hx
    have h0 : 0 ≤ s ∧ s < 256 := by
      simp [Lit.wf, IntKind.min, IntKind.max, IntKind.bits, IntKind.signed] at hs
      omega
    exact ⟨UInt8.ofNat s.toNat, by simp [byteE]; omega, trivial⟩) hv h
end Go.Proofs.YtlhhlmalihajcaaDoor
