/- spec.CutChunks. No conditions but sizes. -/
import Derived.Test.YtckaccadgbcohaaCut
namespace Go.Proofs.Ytckaccadgbcohaa
set_option linter.unusedVariables false
set_option linter.unusedSimpArgs false
open Go.RowKit
theorem Sl.sub {α : Type} {enc : α → List Value} {sz : Nat} {w : World} {b off : Nat} {xs : List α} (h : Sl enc sz w (some ⟨b, off, none⟩) xs) (k j : Nat) (hk : k < xs.length) : Sl enc sz w (some ⟨b, off + k * sz, none⟩) ((xs.drop k).take j) := by
  obtain ⟨b', off', he, hb, hc⟩ := h.at hk
  cases he
  refine .inr ⟨b, off + k * sz, rfl, hb, fun i hi j' hj => ?_⟩
  have hi' : i < j ∧ i < xs.length - k := by simp at hi; omega
  have := hc (k + i) (by omega) j' hj
  rw [show off + k * sz + i * sz + j' = off + (k + i) * sz + j' by rw [Nat.add_mul]; omega, this]
  simp
theorem conv_at {b off ca n : Nat} {xs : List UInt8} {w : World} (h : Sl byteE 1 w (some ⟨b, off, none⟩) xs) (hn : n = xs.length) : (convert 112 9 (.slice (some ⟨b, off, none⟩) n ca)).run Try.prog w = .ok (.string (strOf xs)) w := by
  subst hn
  exact conv_sl h
end Go.Proofs.Ytckaccadgbcohaa
