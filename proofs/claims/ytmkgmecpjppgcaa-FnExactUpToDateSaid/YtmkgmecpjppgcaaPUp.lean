/- impl.UpToDate returns what spec.UpToDate returns: the law FnExactUpToDate returns true for every node and every two numbers, and its arguments read afterwards as they read before. No conditions. -/
import Derived.Test.YtmkgmecpjppgcaaUp2
import Derived.Test.YtmkgmecpjppgcaaFrame2
namespace Go.Proofs.Ytmkgmecpjppgcaa
set_option linter.unusedVariables false
set_option linter.unusedSimpArgs false
open Go.ChangeShapes Go.WideShapes Go.ChangeAt Go.RowKit
set_option maxRecDepth 100000 in
theorem fnExactUpToDate_lifted (os : Os) (started : os.Started) (H : Type) (enc : TypeId × Value → H) :
    ReturnsInHanded {} Try.checked os 13 .any (Rows.fnExactUpToDateSpec.pre6 enc Try.prog Try.f13 Rows.fnExactUpToDateRow.domain false) (Rows.fnExactUpToDateSpec.post enc Try.prog Try.f13 false true false false) := by
  refine returnsInHanded_of_change (C := Try.checked) Try.own started (by kernel_rfl) Try.func13
    (ChangeSpec.witness6 (enc := enc) (C := Try.checked) false ⟨#[], #[.agg #[.int .i64 0, .int .i64 0, .int .i64 0, .int .i64 0, .int .i64 0, .bool false, .slice none 0 0, .int .i64 0, .int .i64 0, .int .i64 0, .slice none 0 0, .slice none 0 0, .slice none 0 0], .int .i64 0, .int .i64 0], []⟩ 8 (by kernel_rfl) (by kernel_rfl) (by kernel_rfl) (by kernel_rfl)) ?_
  intro W base args ds gs before hval hW hcnd _
  have hW' := hW
  obtain ⟨p, q, hA, hV, rfl, hfz, hnd⟩ := hW
  obtain ⟨v0, v1, v2, d0, d1, d2, p0, p1, p2, rfl, rfl, rfl, h0, h1, h2⟩ := trodAll_three hA
  obtain ⟨rfl, rfl⟩ := trodVars_none hV
  obtain ⟨id, nodes, term, vote, role, up, al, cl, log, commit, elapsed, wait, av, cv, votes, an, cn, next, am, cm, mtch, rfl, l1, l2, l3, l4, l5, l6, l7, l8, l9⟩ := openNode (hval 0 66 v0 rfl rfl) h0
  obtain ⟨i, rfl, rfl, rfl, wi⟩ := open_int Try.underlying3 (hval 1 3 v1 rfl rfl) h1
  obtain ⟨t, rfl, rfl, rfl, wt⟩ := open_int Try.underlying3 (hval 2 3 v2 rfl rfl) h2
  exact law_calls rfl rfl (by kernel_rfl) hW' rfl (lawUp_c al cl av cv an cn am cm ⟨id, nodes, term, vote, role, up, log, commit, elapsed, wait, votes, next, mtch⟩ i t W ⟨l3, l5, l7, l9⟩ ⟨l1, l2, l4, l6, l8⟩)
theorem fnExactUpToDate_holds : Rows.FnExactUpToDateSaid :=
  OpenClaim.holds_of_wide 13 Try.f13 rfl rfl rfl rfl rfl rfl rfl ⟨rfl, rfl, rfl, rfl, rfl⟩ rfl rfl rfl rfl rfl (by kernel_rfl) Try.func13 (by kernel_rfl)
    (of_decide_eq_true (by kernel_rfl)) (by unfold Func.isWrapper; first | (rw [if_pos (by decide +kernel)]; kernel_rfl) | (rw [if_neg (by decide +kernel)]; exact ⟨rfl, rfl⟩))
    (fun os started H enc _ => fnExactUpToDate_lifted os started H enc)
end Go.Proofs.Ytmkgmecpjppgcaa
