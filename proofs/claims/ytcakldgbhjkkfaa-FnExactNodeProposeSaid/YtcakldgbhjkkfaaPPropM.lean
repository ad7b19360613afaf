/- impl.NodePropose returns what spec.NodePropose returns: the law FnExactNodePropose returns true for every node and every string. No conditions. -/
import Derived.Test.YtcakldgbhjkkfaaPrpC
import Derived.Test.YtcakldgbhjkkfaaFrame2
import Derived.ChangeMaps5
namespace Go.Proofs.Ytcakldgbhjkkfaa
set_option linter.unusedVariables false
set_option linter.unusedSimpArgs false
section
open Go.ChangeShapes Go.WideShapes Go.ChangeAt Go.RowKit
set_option maxRecDepth 100000 in
theorem fnExactNodePropose_lifted (os : Os) (started : os.Started) (H : Type) (enc : TypeId × Value → H) :
    ReturnsInHanded {} Try.checked os 3 .any (Rows.fnExactNodeProposeSpec.pre6 enc Try.prog Try.f3 Rows.fnExactNodeProposeRow.domain false) (Rows.fnExactNodeProposeSpec.post enc Try.prog Try.f3 false true false false) := by
  refine returnsInHanded_of_change (C := Try.checked) Try.own started (by kernel_rfl) Try.func3
    (ChangeSpec.witness6 (enc := enc) (C := Try.checked) false ⟨#[], #[.agg #[.int .i64 0, .int .i64 0, .int .i64 0, .int .i64 0, .int .i64 0, .bool false, .slice none 0 0, .int .i64 0, .int .i64 0, .int .i64 0, .slice none 0 0, .slice none 0 0, .slice none 0 0], .string ⟨#[]⟩], []⟩ 8 (by kernel_rfl) (by kernel_rfl) (by kernel_rfl) (by kernel_rfl)) ?_
  intro W base args ds gs before hval hW hcnd _
  have hW' := hW
  obtain ⟨p, q, hA, hV, rfl, hfz, hnd⟩ := hW
  obtain ⟨v0, v1, d0, d1, p0, p1, rfl, rfl, rfl, h0, h1⟩ := trodAll_two hA
  obtain ⟨rfl, rfl⟩ := trodVars_none hV
  obtain ⟨id, nodes, term, vote, role, up, al, cl, log, commit, elapsed, wait, av, cv, votes, an, cn, next, am, cm, mtch, rfl, l1, l2, l3, l4, l5, l6, l7, l8, l9⟩ := openNode (hval 0 25 v0 rfl rfl) h0
  obtain ⟨s, rfl, rfl, rfl, ws⟩ := Go.ChangeMaps.open_string Try.underlying9 (hval 1 9 v1 rfl rfl) h1
  exact law_calls rfl rfl (by kernel_rfl) hW' rfl (lawProp_c al cl av cv an cn am cm ⟨id, nodes, term, vote, role, up, log, commit, elapsed, wait, votes, next, mtch⟩ s W ⟨l3, l5, l7, l9⟩ ⟨l1, l2, l4, l6, l8⟩)
theorem fnExactNodePropose_holds : Rows.FnExactNodeProposeSaid :=
  OpenClaim.holds_of_wide 3 Try.f3 rfl rfl rfl rfl rfl rfl rfl ⟨rfl, rfl, rfl, rfl, rfl⟩ rfl rfl rfl rfl rfl (by kernel_rfl) Try.func3 (by kernel_rfl)
    (of_decide_eq_true (by kernel_rfl)) (by unfold Func.isWrapper; first | (rw [if_pos (by decide +kernel)]; kernel_rfl) | (rw [if_neg (by decide +kernel)]; exact ⟨rfl, rfl⟩))
    (fun os started H enc _ => fnExactNodePropose_lifted os started H enc)
end
end Go.Proofs.Ytcakldgbhjkkfaa
