/- Fields and numbers as bytes: spec.l02Numbers, spec.l02Fields. No conditions but sizes. -/
import Derived.Test.YtckaccadgbcohaaFld
import Derived.Test.YtckaccadgbcohaaOwn2
namespace Go.Proofs.Ytckaccadgbcohaa
set_option linter.unusedVariables false
set_option linter.unusedSimpArgs false
open Go.RowKit
theorem intOne : ∀ (x : Int), ∀ u ∈ intE x, u.oneCell' = true := fun x u hu => by simp [intE] at hu; subst hu; rfl
end Go.Proofs.Ytckaccadgbcohaa
