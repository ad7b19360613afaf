/- Marks on a state. -/
import Derived.Test.YtckaccadgbcohaaMark3
import Derived.Test.YtckaccadgbcohaaState3
namespace Go.Proofs.Ytckaccadgbcohaa
set_option linter.unusedVariables false
set_option linter.unusedSimpArgs false
open Go.RowKit
theorem FreshIn.fits {α : Type} {enc : α → List Value} {sz : Nat} {e : TypeId} {lo hi n cap : Nat} {a : Option Addr} {xs : List α} {w : World} (h : FreshIn enc e sz lo hi (.slice a n cap) xs w) : n ≤ cap := by
  obtain ⟨⟨a', c', hv, hc, _⟩, _⟩ := h
  cases hv
  exact hc
theorem FreshIn.slm2 {lo hi n K ca : Nat} {a : Option Addr} {e : TypeId} {w : World} (h : FreshIn strE e 1 lo hi (.slice a n ca) (marks K n) w) : Sl strE 1 w a (marks K n) := by
  have h' : FreshIn strE e 1 lo hi (.slice a (marks K n).length ca) (marks K n) w := by rw [marks_length]; exact h
  exact h'.sl fun _ => rfl
end Go.Proofs.Ytckaccadgbcohaa
