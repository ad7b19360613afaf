/- Worlds that differ in one row of a block, and in named blocks. Plain lemmas, no program. -/
import Derived.Test.YtlhhlmalihajcaaDoorMid
import Derived.Test.YtlhhlmalihajcaaDoorOwn
namespace Go.Proofs.YtlhhlmalihajcaaDoor
set_option linter.unusedVariables false
set_option linter.unusedSimpArgs false
open Go.RowKit
/-- Only the cells of block g from lo on and below hi, the blocks of S, and new blocks differ. -/
structure Upd (g lo hi : Nat) (S : Nat → Prop) (w w' : World) : Prop where
  os : w'.os = w.os
  tape : w'.tape = w.tape
  output : w'.output = w.output
  size : w.heap.size ≤ w'.heap.size
  block : ∀ k, k < w.heap.size → k ≠ g → ¬ S k → w'.heap[k]? = w.heap[k]?
  cell : ∀ o, (o < lo ∨ hi ≤ o) → w'.cell? ⟨g, o, none⟩ = w.cell? ⟨g, o, none⟩
  fz : ∀ o, w'.frozen? ⟨g, o, none⟩ = w.frozen? ⟨g, o, none⟩
section
variable {g lo hi : Nat} {S : Nat → Prop} {a w w' : World}
theorem Upd.refl : Upd g lo hi S w w := ⟨rfl, rfl, rfl, Nat.le_refl _, fun _ _ _ _ => rfl, fun _ _ => rfl, fun _ => rfl⟩
theorem Upd.trans (h : Upd g lo hi S a w) (k : Upd g lo hi S w w') : Upd g lo hi S a w' :=
  ⟨k.os.trans h.os, k.tape.trans h.tape, k.output.trans h.output, Nat.le_trans h.size k.size, fun i h1 h2 h3 => (k.block i (Nat.lt_of_lt_of_le h1 h.size) h2 h3).trans (h.block i h1 h2 h3), fun o ho => (k.cell o ho).trans (h.cell o ho), fun o => (k.fz o).trans (h.fz o)⟩
theorem Upd.setCell (h : Upd g lo hi S a w) (o : Nat) (h1 : lo ≤ o) (h2 : o < hi) (u : Value) : Upd g lo hi S a (w.setCell ⟨g, o, none⟩ u) :=
  h.trans ⟨rfl, rfl, rfl, by simp [World.setCell], fun k _ hk _ => Below.heap_setCell _ _ _ _ hk, fun o' ho => World.cell?_setCell_other _ _ _ _ (fun e => by cases e; omega), fun o' => World.frozen?_setCell _ _ _ _⟩
theorem Upd.mid {l r : Nat} (h : Upd g lo hi S a w) (hm : Mid l r w w') (hg : g < w.heap.size) (hd : g < l ∨ r ≤ g) (hS : ∀ k, l ≤ k → k < r → k < w.heap.size → S k) : Upd g lo hi S a w' :=
  h.trans ⟨hm.os, hm.tape, hm.output, hm.size, fun k h1 _ h3 => hm.block k h1 (by
    rcases Nat.lt_or_ge k l with hl | hl
    · exact .inl hl
    · rcases Nat.lt_or_ge k r with hr | hr
      · exact absurd (hS k hl hr h1) h3
      · exact .inr hr), fun o _ => hm.cell (p := ⟨g, o, none⟩) hg hd, fun o => hm.frozen (p := ⟨g, o, none⟩) hg hd⟩
theorem Upd.below (h : Upd g lo hi S a w) (hb : Below w.heap.size w w') (hg : g < w.heap.size) : Upd g lo hi S a w' :=
  h.trans ⟨hb.os, hb.tape, hb.output, hb.size, fun k h1 _ _ => hb.block k h1, fun o _ => hb.cell (p := ⟨g, o, none⟩) hg, fun o => hb.frozen (p := ⟨g, o, none⟩) hg⟩
theorem Upd.mono {lo' hi' : Nat} {T : Nat → Prop} (h : Upd g lo hi S w w') (h1 : lo' ≤ lo) (h2 : hi ≤ hi') (hS : ∀ k, S k → T k) : Upd g lo' hi' T w w' :=
  ⟨h.os, h.tape, h.output, h.size, fun k a b c => h.block k a b (fun hs => c (hS k hs)), fun o ho => h.cell o (by omega), h.fz⟩
theorem Upd.toMid {l r : Nat} (h : Upd g lo hi S w w') (h1 : l ≤ g) (h2 : g < r) (hS : ∀ k, S k → l ≤ k ∧ k < r) : Mid l r w w' :=
  ⟨h.os, h.tape, h.output, h.size, fun k hk hd => h.block k hk (by omega) (fun hs => by have := hS k hs; omega)⟩
theorem Upd.toBelow {B : Nat} (h : Upd g lo hi S w w') (hB : B ≤ w.heap.size) (h1 : B ≤ g) (hS : ∀ k, S k → B ≤ k) : Below B w w' :=
  ⟨h.os, h.tape, h.output, h.size, fun k hk => h.block k (by omega) (by omega) (fun hs => by have := hS k hs; omega)⟩
variable {α : Type} {enc : α → List Value} {sz : Nat} {ad : Option Addr} {xs : List α}
/-- One row of a list of rows is written anew. -/
theorem Sl.row (h : Sl enc sz w (some ⟨g, 0, none⟩) xs) (hg : g < w.heap.size) {q : Nat} (hq : q < xs.length) (hu : Upd g (q * sz) (q * sz + sz) S w w') (x : α) (hx : ∀ j, j < sz → w'.cell? ⟨g, q * sz + j, none⟩ = (enc x)[j]?) : Sl enc sz w' (some ⟨g, 0, none⟩) (xs.set q x) := by
  obtain ⟨b, off, he, hlt, hc⟩ := h.at hq
  simp only [Option.some.injEq, Addr.mk.injEq] at he
  obtain ⟨rfl, rfl, _⟩ := he
  refine .inr ⟨g, 0, rfl, Nat.lt_of_lt_of_le hg hu.size, fun i hi j hj => ?_⟩
  have hi' : i < xs.length := by simpa using hi
  rw [Nat.zero_add]
  by_cases hiq : i = q
  · subst hiq
    rw [hx j hj]
    simp
  · have h1 := hc i hi' j hj
    rw [Nat.zero_add] at h1
    rw [hu.cell _ (by
      rcases Nat.lt_or_gt_of_ne hiq with h | h
      · left
        have : (i + 1) * sz ≤ q * sz := Nat.mul_le_mul_right _ h
        rw [Nat.add_mul] at this
        omega
      · right
        have : (q + 1) * sz ≤ i * sz := Nat.mul_le_mul_right _ h
        rw [Nat.add_mul] at this
        omega), h1]
    rw [List.getElem_set_ne (fun e => hiq e.symm)]
/-- The blocks of a slice. -/
def blkOf : Option Addr → List Nat
  | some p => [p.block]
  | none => []
theorem FreshIn.upd {e : TypeId} {B n c : Nat} (h : FreshIn enc e sz B w.heap.size (.slice ad n c) xs w) (hu : Upd g lo hi S w w') (hd : ∀ k ∈ blkOf ad, k ≠ g ∧ ¬ S k) : FreshIn enc e sz B w'.heap.size (.slice ad n c) xs w' := by
  obtain ⟨⟨a', cap', hv, h1, h2, h3⟩, h4⟩ := h
  refine ⟨⟨a', cap', hv, h1, h2, ?_⟩, fun k hk => Nat.lt_of_lt_of_le (h4 k hk) hu.size⟩
  cases hv
  rcases h3 with h3 | ⟨b, cap, cur, hv, hg, hb, r'⟩
  · exact .inl h3
  · refine .inr ⟨b, cap, cur, hv, hg, ?_, r'⟩
    cases hv
    have hk := hd b (by simp [blkOf])
    rw [hu.block b (Array.getElem?_eq_some_iff.1 hb).1 hk.1 hk.2]
    exact hb
/-- A slice of one's own, in its block alone. -/
theorem FreshIn.tight {e : TypeId} {B n c : Nat} (h : FreshIn enc e sz B w.heap.size (.slice ad n c) xs w) : ∃ b, FreshIn enc e sz b (b + 1) (.slice ad n c) xs w ∧ b ≤ w.heap.size ∧ (∀ k, b ≤ k → k < b + 1 → k < w.heap.size → k ∈ blkOf ad) ∧ (b < w.heap.size → b ∈ blkOf ad ∧ B ≤ b) := by
  obtain ⟨⟨a', cap', hv, h1, h2, h3⟩, h4⟩ := h
  cases hv
  rcases h3 with ⟨h3, hn⟩ | ⟨b, cap, cur, hv, hg, hb, r'⟩
  · refine ⟨w.heap.size, ⟨⟨ad, c, rfl, h1, h2, .inl ⟨h3, hn⟩⟩, fun k hk => ?_⟩, Nat.le_refl _, fun k h5 _ h6 => by omega, fun h5 => by omega⟩
    rw [h3] at hk
    simp [Value.ownBlock] at hk
  · cases hv
    have hlt := (Array.getElem?_eq_some_iff.1 hb).1
    refine ⟨b, ⟨⟨_, _, rfl, h1, h2, .inr ⟨b, _, cur, rfl, Nat.le_refl _, hb, r'⟩⟩, fun k hk => ?_⟩, Nat.le_of_lt hlt, fun k h5 h6 _ => ?_, fun _ => ⟨by simp [blkOf], hg⟩⟩
    · simp [Value.ownBlock] at hk
      omega
    · have : k = b := by omega
      subst this
      simp [blkOf]
theorem FreshIn.grow {e : TypeId} {B n c b : Nat} (h : FreshIn enc e sz b (b + 1) (.slice ad n c) xs w) (hB : B ≤ b) (hb : b < w.heap.size) : FreshIn enc e sz B w.heap.size (.slice ad n c) xs w := h.mono hB hb
theorem FreshIn.nilB {e : TypeId} {B n c b : Nat} (h : FreshIn enc e sz b (b + 1) (.slice ad n c) xs w) (hk : ∀ k ∈ blkOf ad, B ≤ k) : FreshIn enc e sz B w.heap.size (.slice ad n c) xs w := by
  obtain ⟨⟨a', cap', hv, h1, h2, h3⟩, h4⟩ := h
  cases hv
  rcases h3 with ⟨h3, hn⟩ | ⟨b', cap, cur, hv, hg, hb, r'⟩
  · refine ⟨⟨ad, c, rfl, h1, h2, .inl ⟨h3, hn⟩⟩, fun k hk => ?_⟩
    rw [h3] at hk
    simp [Value.ownBlock] at hk
  · cases hv
    have hlt := (Array.getElem?_eq_some_iff.1 hb).1
    exact ⟨⟨_, _, rfl, h1, h2, .inr ⟨b', _, cur, rfl, hk b' (by simp [blkOf]), hb, r'⟩⟩, fun k hk' => by simp [Value.ownBlock] at hk'; omega⟩
end
end Go.Proofs.YtlhhlmalihajcaaDoor
