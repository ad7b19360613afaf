/- Rows that a loop makes one behind the other, each with slices of its own in new blocks. Plain lemmas, no program. -/
import Derived.Test.YtlhhlmalihajcaaDoorRw
namespace Go.Proofs.YtlhhlmalihajcaaDoor
set_option linter.unusedVariables false
set_option linter.unusedSimpArgs false
open Go.RowKit
structure RowsG {R : Type} (own : Nat → World → R → Prop) (blk : R → List Nat) (st : R → Prop) (B : Nat) (w : World) (L : List R) : Prop where
  ow : ∀ r ∈ L, own B w r
  nd : ∀ r ∈ L, (blk r).Nodup
  bd : ∀ r ∈ L, ∀ b ∈ blk r, B ≤ b ∧ b < w.heap.size
  sta : ∀ r ∈ L, st r
  ap : L.Pairwise (fun r s => ∀ b ∈ blk r, b ∉ blk s)
structure RowNew {R : Type} (own : Nat → World → R → Prop) (blk : R → List Nat) (st : R → Prop) (lo : Nat) (w : World) (t : R) : Prop where
  ow : own lo w t
  nd : (blk t).Nodup
  bd : ∀ b ∈ blk t, lo ≤ b ∧ b < w.heap.size
  sta : st t
section
variable {R : Type} {own : Nat → World → R → Prop} {blk : R → List Nat} {st : R → Prop} {B lo : Nat} {w w' : World} {L : List R} {t : R}
theorem RowsG.nil : RowsG own blk st B w [] := ⟨by simp, by simp, by simp, by simp, .nil⟩
theorem RowsG.to (h : RowsG own blk st B w L) (hz : w.heap.size ≤ w'.heap.size) (hk : ∀ r, own B w r → own B w' r) : RowsG own blk st B w' L :=
  ⟨fun r hr => hk r (h.ow r hr), h.nd, fun r hr b hb => ⟨(h.bd r hr b hb).1, Nat.lt_of_lt_of_le (h.bd r hr b hb).2 hz⟩, h.sta, h.ap⟩
theorem RowsG.snoc (h : RowsG own blk st B w L) (hz : w.heap.size ≤ w'.heap.size) (hk : ∀ r, own B w r → own B w' r) (hB : B ≤ w.heap.size) (ht : RowNew own blk st w.heap.size w' t) (hm : own w.heap.size w' t → own B w' t) : RowsG own blk st B w' (L ++ [t]) := by
  have h' := h.to hz hk
  refine ⟨?_, ?_, ?_, ?_, ?_⟩
  · intro r hr
    rcases List.mem_append.1 hr with hr | hr
    · exact h'.ow r hr
    · simp at hr; subst hr; exact hm ht.ow
  · intro r hr
    rcases List.mem_append.1 hr with hr | hr
    · exact h'.nd r hr
    · simp at hr; subst hr; exact ht.nd
  · intro r hr b hb
    rcases List.mem_append.1 hr with hr | hr
    · exact h'.bd r hr b hb
    · simp at hr; subst hr
      have := ht.bd b hb
      exact ⟨by omega, this.2⟩
  · intro r hr
    rcases List.mem_append.1 hr with hr | hr
    · exact h'.sta r hr
    · simp at hr; subst hr; exact ht.sta
  · rw [List.pairwise_append]
    refine ⟨h.ap, List.pairwise_singleton _ _, fun r hr s hs b hb hbs => ?_⟩
    simp at hs
    subst hs
    have h1 := (h.bd r hr b hb).2
    have h2 := (ht.bd b hbs).1
    omega
theorem RowsG.rows {enc : R → List Value} {sz B' g : Nat} (h : RowsG own blk st B w L) (hs : Sl enc sz w (some ⟨g, 0, none⟩) L) (hB : B' ≤ g) (hg : g < B) (hgw : g < w.heap.size) (hf : ∀ o, w.frozen? ⟨g, o, none⟩ = false) (hm : ∀ r, own B w r → own B' w r) : RowsR enc sz own blk B' w g L where
  low := hB
  lt := hgw
  sl := hs
  fz := hf
  ok := fun i hi => hm _ (h.ow _ (List.getElem_mem hi))
  sep := by
    refine ⟨fun i hi => ?_, fun i j hi hj hij b hb => ?_⟩
    · have hi' : i < L.length := by simpa using hi
      rw [List.getElem_map]
      refine ⟨fun hb => ?_, h.nd _ (List.getElem_mem hi')⟩
      have := h.bd _ (List.getElem_mem hi') g hb
      omega
    · have hi' : i < L.length := by simpa using hi
      have hj' : j < L.length := by simpa using hj
      rw [List.getElem_map] at hb ⊢
      have hp := List.pairwise_iff_getElem.1 h.ap
      rcases Nat.lt_or_gt_of_ne hij with hlt | hlt
      · exact hp i j hi' hj' hlt b hb
      · exact fun hbj => hp j i hj' hi' hlt b hbj hb
theorem blkOf_nodup (a : Option Addr) : (blkOf a).Nodup := by cases a <;> simp [blkOf]
theorem FreshIn.blks {α : Type} {enc : α → List Value} {sz : Nat} {e : TypeId} {hi n c : Nat} {ad : Option Addr} {xs : List α} (h : FreshIn enc e sz lo hi (.slice ad n c) xs w) : ∀ k ∈ blkOf ad, lo ≤ k ∧ k < hi := by
  intro k hk
  cases ad with
  | none => simp [blkOf] at hk
  | some p =>
    simp only [blkOf, List.mem_singleton] at hk
    subst hk
    exact (FreshIn.row h) p.block (by simp [Value.ownBlock])
theorem FreshIn.low {α : Type} {enc : α → List Value} {sz : Nat} {e : TypeId} {hi n c : Nat} {ad : Option Addr} {xs : List α} {B' : Nat} (h : FreshIn enc e sz lo hi (.slice ad n c) xs w) (h1 : B' ≤ lo) : FreshIn enc e sz B' hi (.slice ad n c) xs w := h.mono h1 (Nat.le_refl _)
theorem FreshIn.keepB {α : Type} {enc : α → List Value} {sz : Nat} {e : TypeId} {n c : Nat} {ad : Option Addr} {xs : List α} (h : FreshIn enc e sz B w.heap.size (.slice ad n c) xs w) (hb : Below w.heap.size w w') : FreshIn enc e sz B w'.heap.size (.slice ad n c) xs w' := (h.below hb).mono (Nat.le_refl _) hb.size
theorem FreshIn.setB {α : Type} {enc : α → List Value} {sz : Nat} {e : TypeId} {n c : Nat} {ad : Option Addr} {xs : List α} (h : FreshIn enc e sz B w.heap.size (.slice ad n c) xs w) {p : Addr} (hp : p.block < B) (u : Value) : FreshIn enc e sz B (w.setCell p u).heap.size (.slice ad n c) xs (w.setCell p u) := by
  have := h.setCell hp u
  simpa [World.setCell] using this
end
end Go.Proofs.YtlhhlmalihajcaaDoor
