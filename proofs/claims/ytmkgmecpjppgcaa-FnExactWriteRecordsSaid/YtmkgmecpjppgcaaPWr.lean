/- impl.WriteRecords returns what spec.WriteRecords returns: the law FnExactWriteRecords returns true for every store and every list of texts, and its arguments read afterwards as they read before. No conditions. -/
import Derived.Test.YtmkgmecpjppgcaaWr5
import Derived.Test.YtmkgmecpjppgcaaFrame
namespace Go.Proofs.Ytmkgmecpjppgcaa
set_option linter.unusedVariables false
set_option linter.unusedSimpArgs false
open Go.ChangeShapes Go.WideShapes Go.ChangeAt Go.RowKit
set_option maxRecDepth 100000 in
theorem fnExactWriteRecords_lifted (os : Os) (started : os.Started) (H : Type) (enc : TypeId × Value → H) :
    ReturnsInHanded {} Try.checked os 10 .any (Rows.fnExactWriteRecordsSpec.pre6 enc Try.prog Try.f10 Rows.fnExactWriteRecordsRow.domain false) (Rows.fnExactWriteRecordsSpec.post enc Try.prog Try.f10 false true false false) := by
  refine returnsInHanded_of_change (C := Try.checked) Try.own started (by kernel_rfl) Try.func10
    (ChangeSpec.witness6 (enc := enc) (C := Try.checked) false ⟨#[], #[.agg #[.string ByteArray.empty, .int .i64 0], .slice none 0 0], []⟩ 8 (by kernel_rfl) (by kernel_rfl) (by kernel_rfl) (by kernel_rfl)) ?_
  intro W base args ds gs before hval hW hcnd _
  have hW' := hW
  obtain ⟨p, q, hA, hV, rfl, hfz, hnd⟩ := hW
  obtain ⟨v0, v1, d0, d1, p0, p1, rfl, rfl, rfl, h0, h1⟩ := trodAll_two hA
  obtain ⟨rfl, rfl⟩ := trodVars_none hV
  obtain ⟨t, s, rfl, wt⟩ := open_store (hval 0 23 v0 rfl rfl) h0
  obtain ⟨a, ca, xs, rfl, la, hs, ha⟩ := open_strSl (hval 1 34 v1 rfl rfl) h1
  exact law_calls rfl rfl (by kernel_rfl) hW' rfl (lawWrite_c t s a ca xs W wt ha la hs)
theorem fnExactWriteRecords_holds : Rows.FnExactWriteRecordsSaid :=
  OpenClaim.holds_of_wide 10 Try.f10 rfl rfl rfl rfl rfl rfl rfl ⟨rfl, rfl, rfl, rfl, rfl⟩ rfl rfl rfl rfl rfl (by kernel_rfl) Try.func10 (by kernel_rfl)
    (of_decide_eq_true (by kernel_rfl)) (by unfold Func.isWrapper; first | (rw [if_pos (by decide +kernel)]; kernel_rfl) | (rw [if_neg (by decide +kernel)]; exact ⟨rfl, rfl⟩))
    (fun os started H enc _ => fnExactWriteRecords_lifted os started H enc)
end Go.Proofs.Ytmkgmecpjppgcaa
