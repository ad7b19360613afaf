/- A command is recovered from its bytes, and accepted bytes are those of the result: the law FnCommands returns true for all bytes. No conditions. -/
import Derived.Test.YtmdjcoeijlnloaaCmdLaw
import Derived.Test.YtmdjcoeijlnloaaFrame3
namespace Go.Proofs.Ytmdjcoeijlnloaa
set_option linter.unusedVariables false
set_option linter.unusedSimpArgs false
open Go.ChangeShapes Go.WideShapes Go.ChangeAt Go.RowKit
set_option maxRecDepth 100000 in
theorem fnCommands_lifted (os : Os) (started : os.Started) (H : Type) (enc : TypeId × Value → H) :
    ReturnsInHanded {} Try.checked os 7 .any (Rows.fnCommandsSpec.pre6 enc Try.prog Try.f7 Rows.fnCommandsRow.domain false) (Rows.fnCommandsSpec.post enc Try.prog Try.f7 false true false false) := by
  refine returnsInHanded_of_change (C := Try.checked) Try.own started (by kernel_rfl) Try.func7
    (ChangeSpec.witness6 (enc := enc) (C := Try.checked) false ⟨#[], #[.slice none 0 0, .slice none 0 0], []⟩ 8 (by kernel_rfl) (by kernel_rfl) (by kernel_rfl) (by kernel_rfl)) ?_
  intro W base args ds gs before hval hW hcnd _
  have hW' := hW
  obtain ⟨p, q, hA, hV, rfl, hfz, hnd⟩ := hW
  obtain ⟨v0, v1, d0, d1, p0, p1, rfl, rfl, rfl, h0, h1⟩ := trodAll_two hA
  obtain ⟨rfl, rfl⟩ := trodVars_none hV
  obtain ⟨a, ca, xs, rfl, la, _, ha⟩ := open_byteSl (hval 0 41 v0 rfl rfl) h0
  obtain ⟨b, cb, ys, rfl, lb, _, hb⟩ := open_byteSl (hval 1 41 v1 rfl rfl) h1
  exact law_calls rfl rfl (by kernel_rfl) hW' rfl (lawCmds_c a b ca cb xs ys W ha hb la lb)
theorem fnCommands_holds : Rows.FnCommandsSaid :=
  OpenClaim.holds_of_wide 7 Try.f7 rfl rfl rfl rfl rfl rfl rfl ⟨rfl, rfl, rfl, rfl, rfl⟩ rfl rfl rfl rfl rfl (by kernel_rfl) Try.func7 (by kernel_rfl)
    (of_decide_eq_true (by kernel_rfl)) (by unfold Func.isWrapper; first | (rw [if_pos (by decide +kernel)]; kernel_rfl) | (rw [if_neg (by decide +kernel)]; exact ⟨rfl, rfl⟩))
    (fun os started H enc _ => fnCommands_lifted os started H enc)
end Go.Proofs.Ytmdjcoeijlnloaa
