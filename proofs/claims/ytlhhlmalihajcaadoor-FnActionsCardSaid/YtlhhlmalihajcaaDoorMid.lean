/- Worlds that differ in a range of blocks alone. Plain lemmas, no program. -/
import Derived.Test.YtlhhlmalihajcaaDoorSl
import Derived.Test.YtlhhlmalihajcaaDoorSl2
namespace Go.Proofs.YtlhhlmalihajcaaDoor
set_option linter.unusedVariables false
set_option linter.unusedSimpArgs false
open Go.RowKit
/-- Only blocks from lo on and below hi may have changed, and new ones may have come. -/
structure Mid (lo hi : Nat) (w w' : World) : Prop where
  os : w'.os = w.os
  tape : w'.tape = w.tape
  output : w'.output = w.output
  size : w.heap.size ≤ w'.heap.size
  block : ∀ k, k < w.heap.size → (k < lo ∨ hi ≤ k) → w'.heap[k]? = w.heap[k]?
theorem Mid.refl (lo hi : Nat) (w : World) : Mid lo hi w w := ⟨rfl, rfl, rfl, Nat.le_refl _, fun _ _ _ => rfl⟩
theorem Mid.trans {lo hi : Nat} {a b c : World} (h : Mid lo hi a b) (k : Mid lo hi b c) : Mid lo hi a c :=
  ⟨k.os.trans h.os, k.tape.trans h.tape, k.output.trans h.output, Nat.le_trans h.size k.size, fun i hi hd => (k.block i (Nat.lt_of_lt_of_le hi h.size) hd).trans (h.block i hi hd)⟩
theorem Mid.of_below {w w' : World} (lo hi : Nat) (h : Below w.heap.size w w') : Mid lo hi w w' := ⟨h.os, h.tape, h.output, h.size, fun k hk _ => h.block k hk⟩
theorem Mid.mono {lo hi lo' hi' : Nat} {w w' : World} (h : Mid lo hi w w') (h1 : lo' ≤ lo) (h2 : hi ≤ hi') : Mid lo' hi' w w' :=
  ⟨h.os, h.tape, h.output, h.size, fun k hk hd => h.block k hk (by omega)⟩
theorem Mid.below {lo hi B : Nat} {w w' : World} (h : Mid lo hi w w') (h1 : B ≤ lo) (h2 : B ≤ w.heap.size) : Below B w w' :=
  ⟨h.os, h.tape, h.output, h.size, fun k hk => h.block k (by omega) (by omega)⟩
theorem Mid.setCell {lo hi : Nat} {a w : World} (h : Mid lo hi a w) {p : Addr} (h1 : lo ≤ p.block) (h2 : p.block < hi) (u : Value) : Mid lo hi a (w.setCell p u) :=
  h.trans ⟨rfl, rfl, rfl, by simp [World.setCell], fun k _ hd => Below.heap_setCell _ _ _ _ (by omega)⟩
theorem Mid.cell {lo hi : Nat} {w w' : World} (h : Mid lo hi w w') {p : Addr} (hp : p.block < w.heap.size) (hd : p.block < lo ∨ hi ≤ p.block) : w'.cell? p = w.cell? p :=
  World.cell?_of_block (w := w) (h.block p.block hp hd)
theorem Mid.frozen {lo hi : Nat} {w w' : World} (h : Mid lo hi w w') {p : Addr} (hp : p.block < w.heap.size) (hd : p.block < lo ∨ hi ≤ p.block) : w'.frozen? p = w.frozen? p :=
  World.frozen?_of_block (w := w) (h.block p.block hp hd)
section
variable {α : Type} {enc : α → List Value} {sz : Nat} {w w' : World} {a : Option Addr} {xs : List α}
theorem FreshIn.mid {e : TypeId} {lo hi l r : Nat} {v : Value} (h : FreshIn enc e sz lo hi v xs w) (hm : Mid l r w w') (hd : hi ≤ l ∨ r ≤ lo) : FreshIn enc e sz lo hi v xs w' := by
  refine ⟨?_, h.2⟩
  obtain ⟨a', cap', rfl, h1, h2, h3⟩ := h.1
  refine ⟨a', cap', rfl, h1, h2, ?_⟩
  rcases h3 with h3 | ⟨g, cap, cur, hv, hg, hb, r'⟩
  · exact .inl h3
  · have hlt : g < hi := h.2 g (by rw [hv]; rfl)
    have hsz := (Array.getElem?_eq_some_iff.1 hb).1
    refine .inr ⟨g, cap, cur, hv, hg, ?_, r'⟩
    rw [hm.block g hsz (by omega)]
    exact hb
theorem FreshIn.alloc {e : TypeId} {lo hi : Nat} {v : Value} (h : FreshIn enc e sz lo hi v xs w) (o : Obj) : FreshIn enc e sz lo hi v xs (w.alloc o) := h.below ((Below.refl _ _).alloc (Nat.le_refl _) _)
theorem FreshIn.drew {e : TypeId} {lo hi : Nat} {v : Value} (h : FreshIn enc e sz lo hi v xs w) : FreshIn enc e sz lo hi v xs w.drew := h.below ((Below.refl _ _).drew)
theorem SlIn.alloc {lo hi : Nat} (h : Sl enc sz w a xs ∧ ∀ b off, a = some ⟨b, off, none⟩ → lo ≤ b ∧ b < hi) (o : Obj) : Sl enc sz (w.alloc o) a xs ∧ ∀ b off, a = some ⟨b, off, none⟩ → lo ≤ b ∧ b < hi := ⟨h.1.alloc o, h.2⟩
/-- A slice that reads as a list and lies in blocks from lo on and below hi. -/
def SlIn (enc : α → List Value) (sz lo hi : Nat) (w : World) (a : Option Addr) (xs : List α) : Prop := Sl enc sz w a xs ∧ ∀ b off, a = some ⟨b, off, none⟩ → lo ≤ b ∧ b < hi
theorem FreshIn.slIn {e : TypeId} {lo hi : Nat} {cap : Nat} (hs : ∀ x, (enc x).length = sz) (h : FreshIn enc e sz lo hi (.slice a xs.length cap) xs w) : SlIn enc sz lo hi w a xs :=
  ⟨h.sl hs, fun b off e => by
    have hk : Value.ownBlock (.slice a xs.length cap) = some b := by rw [e]; rfl
    exact ⟨(h.1.lt hk).1, h.2 b hk⟩⟩
theorem SlIn.mid {lo hi l r : Nat} (h : SlIn enc sz lo hi w a xs) (hm : Mid l r w w') (hd : hi ≤ l ∨ r ≤ lo) : SlIn enc sz lo hi w' a xs := by
  refine ⟨?_, h.2⟩
  rcases h.1 with h1 | ⟨b, off, rfl, hlt, hc⟩
  · exact .inl h1
  · have := h.2 b off rfl
    exact .inr ⟨b, off, rfl, Nat.lt_of_lt_of_le hlt hm.size, fun i hi j hj => by rw [hm.cell (p := ⟨b, _, none⟩) hlt (by show b < _ ∨ _ ≤ b; omega)]; exact hc i hi j hj⟩
theorem SlIn.below {lo hi : Nat} (h : SlIn enc sz lo hi w a xs) (hb : Below w.heap.size w w') : SlIn enc sz lo hi w' a xs := ⟨h.1.keep hb, h.2⟩
theorem SlIn.mono {lo hi lo' hi' : Nat} (h : SlIn enc sz lo hi w a xs) (h1 : lo' ≤ lo) (h2 : hi ≤ hi') : SlIn enc sz lo' hi' w a xs := ⟨h.1, fun b off e => by have := h.2 b off e; omega⟩
end
end Go.Proofs.YtlhhlmalihajcaaDoor
