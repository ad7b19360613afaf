/- The functions on states: validity. -/
import Derived.Test.YtfehfjiemelffaaEntry
import Derived.Test.YtfehfjiemelffaaScalar
namespace Go.Proofs.Ytfehfjiemelffaa
set_option linter.unusedVariables false
set_option linter.unusedSimpArgs false
open Go.RowKit
def EntAt (xs : List Ent) (t : Int) (k : Nat) : Prop := ∃ h : k < xs.length, xs[k].2.size ≤ 400 ∧ 1 ≤ xs[k].1 ∧ xs[k].1 ≤ t ∧ ∀ h0 : 0 < k, xs[k - 1].1 ≤ xs[k].1
def EntsOK (xs : List Ent) (t : Int) : Prop := xs.length ≤ 60 ∧ ∀ k, k < xs.length → EntAt xs t k
open Classical in
noncomputable def entsOK (xs : List Ent) (t : Int) : Bool := decide (EntsOK xs t)
theorem entsOK_true {xs : List Ent} {t : Int} (h : EntsOK xs t) : entsOK xs t = true := by simp [entsOK, h]
theorem entsOK_false {xs : List Ent} {t : Int} (h : ¬ EntsOK xs t) : entsOK xs t = false := by simp [entsOK, h]
def StOK (t v : Int) (xs : List Ent) : Prop := inB t 0 1000 = true ∧ inB v (-1) 4 = true ∧ EntsOK xs t
open Classical in
noncomputable def stOK (t v : Int) (xs : List Ent) : Bool := decide (StOK t v xs)
theorem stOK_true {t v : Int} {xs : List Ent} (h : StOK t v xs) : stOK t v xs = true := by simp [stOK, h]
theorem stOK_false {t v : Int} {xs : List Ent} (h : ¬ StOK t v xs) : stOK t v xs = false := by simp [stOK, h]
theorem stOK_ents {t v : Int} {xs : List Ent} (h1 : inB t 0 1000 = true) (h2 : inB v (-1) 4 = true) : stOK t v xs = entsOK xs t := by
  by_cases h : EntsOK xs t
  · rw [stOK_true ⟨h1, h2, h⟩, entsOK_true h]
  · rw [stOK_false (fun k => h k.2.2), entsOK_false h]
end Go.Proofs.Ytfehfjiemelffaa
