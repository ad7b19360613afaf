/- impl.Committed returns what spec.Committed returns: the law FnExactCommitted returns true for every node, and its argument reads afterwards as it read before. No conditions. -/
import Derived.Test.YtmkgmecpjppgcaaComm2
import Derived.Test.YtmkgmecpjppgcaaFrame2
namespace Go.Proofs.Ytmkgmecpjppgcaa
set_option linter.unusedVariables false
set_option linter.unusedSimpArgs false
open Go.ChangeShapes Go.WideShapes Go.ChangeAt Go.RowKit
set_option maxRecDepth 100000 in
theorem fnExactCommitted_lifted (os : Os) (started : os.Started) (H : Type) (enc : TypeId × Value → H) :
    ReturnsInHanded {} Try.checked os 14 .any (Rows.fnExactCommittedSpec.pre6 enc Try.prog Try.f14 Rows.fnExactCommittedRow.domain false) (Rows.fnExactCommittedSpec.post enc Try.prog Try.f14 false true false false) := by
  refine returnsInHanded_of_change (C := Try.checked) Try.own started (by kernel_rfl) Try.func14
    (ChangeSpec.witness6 (enc := enc) (C := Try.checked) false ⟨#[], #[.agg #[.int .i64 0, .int .i64 0, .int .i64 0, .int .i64 0, .int .i64 0, .bool false, .slice none 0 0, .int .i64 0, .int .i64 0, .int .i64 0, .slice none 0 0, .slice none 0 0, .slice none 0 0]], []⟩ 8 (by kernel_rfl) (by kernel_rfl) (by kernel_rfl) (by kernel_rfl)) ?_
  intro W base args ds gs before hval hW hcnd _
  have hW' := hW
  obtain ⟨p, q, hA, hV, rfl, hfz, hnd⟩ := hW
  obtain ⟨v0, d0, rfl, rfl, h0⟩ := trodAll_one hA
  obtain ⟨rfl, rfl⟩ := trodVars_none hV
  obtain ⟨id, nodes, term, vote, role, up, al, cl, log, commit, elapsed, wait, av, cv, votes, an, cn, next, am, cm, mtch, rfl, l1, l2, l3, l4, l5, l6, l7, l8, l9⟩ := openNode (hval 0 66 v0 rfl rfl) h0
  exact law_calls rfl rfl (by kernel_rfl) hW' rfl (lawComm_c al cl av cv an cn am cm ⟨id, nodes, term, vote, role, up, log, commit, elapsed, wait, votes, next, mtch⟩ W ⟨l3, l5, l7, l9⟩ ⟨l1, l2, l4, l6, l8⟩)
theorem fnExactCommitted_holds : Rows.FnExactCommittedSaid :=
  OpenClaim.holds_of_wide 14 Try.f14 rfl rfl rfl rfl rfl rfl rfl ⟨rfl, rfl, rfl, rfl, rfl⟩ rfl rfl rfl rfl rfl (by kernel_rfl) Try.func14 (by kernel_rfl)
    (of_decide_eq_true (by kernel_rfl)) (by unfold Func.isWrapper; first | (rw [if_pos (by decide +kernel)]; kernel_rfl) | (rw [if_neg (by decide +kernel)]; exact ⟨rfl, rfl⟩))
    (fun os started H enc _ => fnExactCommitted_lifted os started H enc)
end Go.Proofs.Ytmkgmecpjppgcaa
