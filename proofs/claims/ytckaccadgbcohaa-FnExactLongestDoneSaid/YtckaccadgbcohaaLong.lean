/- impl.isLong: whether one of some lengths is too great; slices.ContainsFunc. No conditions but sizes. -/
import Derived.Test.YtckaccadgbcohaaScalar
import Derived.Test.YtckaccadgbcohaaSl
import Derived.Lib.Hide
namespace Go.Proofs.Ytckaccadgbcohaa
set_option linter.unusedVariables false
set_option linter.unusedSimpArgs false
open Go.RowKit
def firstIx {α : Type} (p : α → Bool) (xs : List α) : Int := if xs.any p then (xs.findIdx p : Int) else -1
theorem take_none {α : Type} {p : α → Bool} {xs : List α} {k : Nat} (h : ∀ j (hj : j < xs.length), j < k → p xs[j] = false) (hk : xs.length ≤ k) : xs.any p = false := by
  rw [List.any_eq_false]
  intro x hx
  obtain ⟨j, hj, rfl⟩ := List.getElem_of_mem hx
  simp [h j hj (by omega)]
theorem any_at {α : Type} {p : α → Bool} {xs : List α} {k : Nat} (hk : k < xs.length) (h : p xs[k] = true) : xs.any p = true := List.any_eq_true.2 ⟨_, List.getElem_mem hk, h⟩
def longP (n : Int) : Bool := decide (65536 < n)
theorem longP_eq (n : Int) : longP n = decide (65536 < n) := rfl
def sz_impl_isLong_1 (_ : Int) : Prop := True
theorem Sl.box {w : World} {b : Nat} {n : Int} (hb : b < w.heap.size) (hc : w.cell? ⟨b, 0, none⟩ = some (.int .i64 n)) : Sl intE 1 w (some ⟨b, 0, none⟩) [n] :=
  .inr ⟨b, 0, rfl, hb, fun i hi j hj => by
    have h1 : i = 0 := by simpa using hi
    have h2 : j = 0 := by omega
    subst h1 h2
    simpa [intE] using hc⟩
end Go.Proofs.Ytckaccadgbcohaa
