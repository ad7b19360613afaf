/- Stores of a whole struct, cell by cell. Plain lemmas, no program. -/
import Derived.Test.YtlhhlmalihajcaaDoorSl
namespace Go.Proofs.YtlhhlmalihajcaaDoor
set_option linter.unusedVariables false
set_option linter.unusedSimpArgs false
open Go.RowKit
theorem alloc_some (w : World) (c : Array Value) (t : TypeId) (b j : Nat) (hb : b = w.heap.size) (h : (c[j]?).isSome = true) : ((w.alloc (.cells c t)).cell? ⟨b, j, none⟩).isSome = true := by
  subst hb
  rw [World.cell?_alloc_new]
  exact h
/-- The values laid one behind the other from an offset on. -/
def storeAll (b : Nat) : World → Nat → List Value → World
  | w, _, [] => w
  | w, off, v :: vs => storeAll b (w.setCell ⟨b, off, none⟩ v) (off + 1) vs
theorem storeAll_other (b : Nat) : ∀ (vs : List Value) (w : World) (off : Nat) (p : Addr), (p.block ≠ b ∨ p.off < off ∨ off + vs.length ≤ p.off) → (storeAll b w off vs).cell? p = w.cell? p
  | [], _, _, _, _ => rfl
  | v :: vs, w, off, p, h => by
    rw [storeAll, storeAll_other b vs _ _ p (by rcases h with h | h | h <;> simp at * <;> omega)]
    exact World.cell?_setCell_other _ _ _ _ (fun e => by subst e; simp at h <;> omega)
theorem storeAll_cell (b : Nat) : ∀ (vs : List Value) (w : World) (off : Nat) (_ : ∀ j, j < vs.length → (w.cell? ⟨b, off + j, none⟩).isSome = true) (j : Nat), j < vs.length → (storeAll b w off vs).cell? ⟨b, off + j, none⟩ = vs[j]?
  | [], _, _, _, _, hj => by simp at hj
  | v :: vs, w, off, h, 0, _ => by
    obtain ⟨u, hu⟩ := Option.isSome_iff_exists.1 (h 0 (by simp))
    rw [storeAll, storeAll_other b vs _ _ _ (.inr (.inl (by simp)))]
    simpa using World.cell?_setCell_same _ _ _ hu
  | v :: vs, w, off, h, j + 1, hj => by
    rw [storeAll, show off + (j + 1) = off + 1 + j by omega]
    rw [storeAll_cell b vs (w.setCell ⟨b, off, none⟩ v) (off + 1) (fun i hi => by
      rw [World.cell?_setCell_other _ _ _ _ (fun e => by simp at e <;> omega)]
      have := h (i + 1) (by simpa using hi)
      rwa [show off + (i + 1) = off + 1 + i by omega] at this) j (by simpa using hj)]
    simp
theorem storeAll_below (b B : Nat) (hb : B ≤ b) : ∀ (vs : List Value) (w0 w : World) (off : Nat), Below B w0 w → Below B w0 (storeAll b w off vs)
  | [], _, _, _, h => h
  | v :: vs, w0, w, off, h => storeAll_below b B hb vs w0 _ _ (h.setCell hb v)
theorem storeAll_size (b : Nat) : ∀ (vs : List Value) (w : World) (off : Nat), (storeAll b w off vs).heap.size = w.heap.size
  | [], _, _ => rfl
  | v :: vs, w, off => by rw [storeAll, storeAll_size b vs]; simp
theorem storeAll_fresh {α : Type} {enc : α → List Value} {e : TypeId} {sz lo hi : Nat} {v : Value} {xs : List α} (b : Nat) (hb : b < lo) : ∀ (vs : List Value) (w : World) (off : Nat), FreshIn enc e sz lo hi v xs w → FreshIn enc e sz lo hi v xs (storeAll b w off vs)
  | [], _, _, h => h
  | u :: vs, w, off, h => storeAll_fresh b hb vs _ _ (h.setCell hb u)
end Go.Proofs.YtlhhlmalihajcaaDoor
