/- impl.SameState returns what spec.SameState returns: the law FnExactSameState returns true for every two states, and its arguments read afterwards as they read before. No conditions. -/
import Derived.Test.YtmkgmecpjppgcaaSame3
import Derived.Test.YtmkgmecpjppgcaaFrame
namespace Go.Proofs.Ytmkgmecpjppgcaa
set_option linter.unusedVariables false
set_option linter.unusedSimpArgs false
open Go.ChangeShapes Go.WideShapes Go.ChangeAt Go.RowKit
set_option maxRecDepth 100000 in
theorem fnExactSameState_lifted (os : Os) (started : os.Started) (H : Type) (enc : TypeId × Value → H) :
    ReturnsInHanded {} Try.checked os 8 .any (Rows.fnExactSameStateSpec.pre6 enc Try.prog Try.f8 Rows.fnExactSameStateRow.domain false) (Rows.fnExactSameStateSpec.post enc Try.prog Try.f8 false true false false) := by
  refine returnsInHanded_of_change (C := Try.checked) Try.own started (by kernel_rfl) Try.func8
    (ChangeSpec.witness6 (enc := enc) (C := Try.checked) false ⟨#[], #[.agg #[.int .i64 0, .int .i64 0, .slice none 0 0], .agg #[.int .i64 0, .int .i64 0, .slice none 0 0]], []⟩ 8 (by kernel_rfl) (by kernel_rfl) (by kernel_rfl) (by kernel_rfl)) ?_
  intro W base args ds gs before hval hW hcnd _
  have hW' := hW
  obtain ⟨p, q, hA, hV, rfl, hfz, hnd⟩ := hW
  obtain ⟨v0, v1, d0, d1, p0, p1, rfl, rfl, rfl, h0, h1⟩ := trodAll_two hA
  obtain ⟨rfl, rfl⟩ := trodVars_none hV
  obtain ⟨t, v, a, c, xs, rfl, hl, hs, hsl⟩ := openState (hval 0 43 v0 rfl rfl) h0
  obtain ⟨t', v', a', c', ys, rfl, hl', hs', hsl'⟩ := openState (hval 1 43 v1 rfl rfl) h1
  exact law_calls rfl rfl (by kernel_rfl) hW' rfl (lawSameState_c a a' c c' xs ys t v t' v' W hsl hsl' hl hl' hs hs')
theorem fnExactSameState_holds : Rows.FnExactSameStateSaid :=
  OpenClaim.holds_of_wide 8 Try.f8 rfl rfl rfl rfl rfl rfl rfl ⟨rfl, rfl, rfl, rfl, rfl⟩ rfl rfl rfl rfl rfl (by kernel_rfl) Try.func8 (by kernel_rfl)
    (of_decide_eq_true (by kernel_rfl)) (by unfold Func.isWrapper; first | (rw [if_pos (by decide +kernel)]; kernel_rfl) | (rw [if_neg (by decide +kernel)]; exact ⟨rfl, rfl⟩))
    (fun os started H enc _ => fnExactSameState_lifted os started H enc)
end Go.Proofs.Ytmkgmecpjppgcaa
