/- impl.RecordsOf returns what spec.RecordsOf returns: the law FnExactRecordsOf returns true for every two states, and its arguments read afterwards as they read before. No conditions. -/
import Derived.Test.YtmdjcoeijlnloaaRec4
import Derived.Test.YtmdjcoeijlnloaaFrame
namespace Go.Proofs.Ytmdjcoeijlnloaa
set_option linter.unusedVariables false
set_option linter.unusedSimpArgs false
open Go.ChangeShapes Go.WideShapes Go.ChangeAt Go.RowKit
set_option maxRecDepth 100000 in
theorem fnExactRecordsOf_lifted (os : Os) (started : os.Started) (H : Type) (enc : TypeId × Value → H) :
    ReturnsInHanded {} Try.checked os 3 .any (Rows.fnExactRecordsOfSpec.pre6 enc Try.prog Try.f3 Rows.fnExactRecordsOfRow.domain false) (Rows.fnExactRecordsOfSpec.post enc Try.prog Try.f3 false true false false) := by
  refine returnsInHanded_of_change (C := Try.checked) Try.own started (by kernel_rfl) Try.func3
    (ChangeSpec.witness6 (enc := enc) (C := Try.checked) false ⟨#[], #[.agg #[.int .i64 0, .int .i64 0, .slice none 0 0], .agg #[.int .i64 0, .int .i64 0, .slice none 0 0]], []⟩ 8 (by kernel_rfl) (by kernel_rfl) (by kernel_rfl) (by kernel_rfl)) ?_
  intro W base args ds gs before hval hW hcnd _
  have hW' := hW
  obtain ⟨p, q, hA, hV, rfl, hfz, hnd⟩ := hW
  obtain ⟨v0, v1, d0, d1, p0, p1, rfl, rfl, rfl, h0, h1⟩ := trodAll_two hA
  obtain ⟨rfl, rfl⟩ := trodVars_none hV
  obtain ⟨t, u, a, ca, xs, rfl, la, hs, ha⟩ := openState (hval 0 24 v0 rfl rfl) h0
  obtain ⟨t', u', b, cb, ys, rfl, lb, hs', hb⟩ := openState (hval 1 24 v1 rfl rfl) h1
  exact law_calls rfl rfl (by kernel_rfl) hW' rfl (lawRecords_c t u t' u' a b ca cb xs ys W ha hb la lb hs hs')
theorem fnExactRecordsOf_holds : Rows.FnExactRecordsOfSaid :=
  OpenClaim.holds_of_wide 3 Try.f3 rfl rfl rfl rfl rfl rfl rfl ⟨rfl, rfl, rfl, rfl, rfl⟩ rfl rfl rfl rfl rfl (by kernel_rfl) Try.func3 (by kernel_rfl)
    (of_decide_eq_true (by kernel_rfl)) (by unfold Func.isWrapper; first | (rw [if_pos (by decide +kernel)]; kernel_rfl) | (rw [if_neg (by decide +kernel)]; exact ⟨rfl, rfl⟩))
    (fun os started H enc _ => fnExactRecordsOf_lifted os started H enc)
end Go.Proofs.Ytmdjcoeijlnloaa
