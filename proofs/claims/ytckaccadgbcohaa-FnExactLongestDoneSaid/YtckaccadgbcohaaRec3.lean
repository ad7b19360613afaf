/- RecordsOf: what both return. No conditions but sizes. -/
import Derived.Test.YtckaccadgbcohaaRec2
import Derived.Test.YtckaccadgbcohaaState2
namespace Go.Proofs.Ytckaccadgbcohaa
set_option linter.unusedVariables false
set_option linter.unusedSimpArgs false
open Go.RowKit
noncomputable def recOL (t v : Int) (xs : List Ent) (t' v' : Int) (ys : List Ent) : List ByteArray := if stOK t v xs = true ∧ stOK t' v' ys = true then recsL t v xs t' v' ys else []
noncomputable def recOC (t v : Int) (xs : List Ent) (t' v' : Int) (ys : List Ent) : Int := if stOK t v xs = true ∧ stOK t' v' ys = true then 0 else 1
theorem stOK_facts {t v : Int} {xs : List Ent} (h : stOK t v xs = true) : 0 ≤ t ∧ t ≤ 1000 ∧ -1 ≤ v ∧ v ≤ 4 ∧ xs.length ≤ 60 ∧ ∀ e ∈ xs, 1 ≤ e.1 ∧ e.1 ≤ 1000 ∧ e.2.size ≤ 400 := by
  have h1 : StOK t v xs := by simpa [stOK] using h
  obtain ⟨h2, h3, h4, h5⟩ := h1
  simp [inB] at h2 h3
  refine ⟨by omega, by omega, by omega, by omega, h4, fun e he => ?_⟩
  obtain ⟨k, hk, rfl⟩ := List.getElem_of_mem he
  obtain ⟨_, k1, k2, k3, _⟩ := h5 k hk
  omega
theorem recsL_length (t v t' v' : Int) (xs ys : List Ent) (hy : ys.length ≤ 60) : (recsL t v xs t' v' ys).length ≤ 62 := by
  have h1 : (rec1 t v t' v').length ≤ 1 := by unfold rec1; split <;> simp
  have h2 : (rec2 xs ys).length ≤ 1 := by unfold rec2; split <;> simp
  have h3 : (rec3 xs ys).length ≤ 60 := by simp [rec3]; omega
  simp only [recsL, List.length_append]
  omega
theorem recOL_length (t v t' v' : Int) (xs ys : List Ent) : (recOL t v xs t' v' ys).length ≤ 62 := by
  unfold recOL
  split
  · next h => exact recsL_length _ _ _ _ _ _ (stOK_facts h.2).2.2.2.2.1
  · simp
end Go.Proofs.Ytckaccadgbcohaa
