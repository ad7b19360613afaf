/- What a store recovers to. Plain lemmas and contracts of the frames, no conditions but sizes. -/
import Derived.Test.YtmdjcoeijlnloaaAppAll
import Derived.Test.YtmdjcoeijlnloaaSapAll
import Derived.Test.YtmdjcoeijlnloaaFrs2
import Derived.Test.YtmdjcoeijlnloaaFrs3
import Derived.Test.YtmdjcoeijlnloaaStore2
namespace Go.Proofs.Ytmdjcoeijlnloaa
set_option linter.unusedVariables false
set_option linter.unusedSimpArgs false
open Go.RowKit
/-- The records of a list, one by one, from a state on. -/
noncomputable def rcL : Int × Int × List Ent → List ByteArray → Option (Int × Int × List Ent)
  | s, [] => some s
  | s, r :: rs => match apV s.1 s.2.1 s.2.2 (rdAll r.data.toList) with
    | some x => rcL x rs
    | none => none
abbrev RvT := (Int × Int × List Ent) × (ByteArray × Int) × Int
noncomputable def rvX (d : ByteArray) (x : List ByteArray × Nat × Int) : RvT :=
  if x.2.2 = 8 then ((0, 0, []), (⟨#[]⟩, 0), 8) else
  match rcL (0, -1, []) x.1 with
  | none => ((0, 0, []), (⟨#[]⟩, 0), 3)
  | some st => (st, (d.extract 0 x.2.1, x.2.1), 0)
noncomputable def rvAll (d : ByteArray) : RvT := rvX d (frs d.data.toList)
def RvR (y : RvT) (w : World) (e : Ending) (w' : World) : Prop :=
  ∃ a ca, e = .returned (.tuple #[.agg #[.int .i64 y.1.1, .int .i64 y.1.2.1, .slice a y.1.2.2.length ca], .agg #[.string y.2.1.1, .int .i64 y.2.1.2], .int .i64 y.2.2]) ∧ Fresh entE 109 2 w.heap.size (.slice a y.1.2.2.length ca) y.1.2.2 w' ∧ Below w.heap.size w w'
def RvA (y : RvT) (w : World) (e : Ending) (w' : World) : Prop :=
  ∃ t v a ca L d' n', e = .returned (.tuple #[.agg #[.int .i64 t, .int .i64 v, .slice a (List.length L) ca], .agg #[.string d', .int .i64 n'], .int .i64 y.2.2]) ∧ (y.2.2 = 0 → y = ((t, v, L), (d', n'), 0) ∧ Fresh entE 109 2 w.heap.size (.slice a L.length ca) L w') ∧ Below w.heap.size w w'
theorem frF_facts : ∀ (n : Nat) (l : List UInt8), (∀ s ∈ (frF n l).1, s.size ≤ 65536) ∧ (frF n l).2.1 ≤ l.length ∧ (frF n l).1.length ≤ l.length
  | 0, l => by simp [frF]
  | n + 1, l => by
    unfold frF
    split
    · simp
    split
    · simp
    split
    · simp
    split
    · simp
    split
    · simp
    obtain ⟨h1, h2, h3⟩ := frF_facts n (l.drop (7 + bn (l.take 3)))
    refine ⟨fun s hs => ?_, ?_, ?_⟩
    · rcases List.mem_cons.1 hs with rfl | hs
      · rw [strOf_size]
        simp
        omega
      · exact h1 s hs
    · simp at h2 ⊢
      omega
    · simp at h3 ⊢
      omega
theorem rvX_sum (d : ByteArray) {F : List ByteArray} {n : Nat} {c : Int} (h : c = 8) : rvX d (F, n, c) = ((0, 0, []), (⟨#[]⟩, 0), 8) := by
  unfold rvX
  rw [if_pos h]
theorem rvX_bad (d : ByteArray) {F : List ByteArray} {n : Nat} {c : Int} (h : c ≠ 8) (hr : rcL (0, -1, []) F = none) : rvX d (F, n, c) = ((0, 0, []), (⟨#[]⟩, 0), 3) := by
  unfold rvX
  rw [if_neg h]
  simp only
  rw [hr]
theorem rvX_ok (d : ByteArray) {F : List ByteArray} {n : Nat} {c : Int} {st : Int × Int × List Ent} (h : c ≠ 8) (hr : rcL (0, -1, []) F = some st) : rvX d (F, n, c) = (st, (d.extract 0 n, (n : Int)), 0) := by
  unfold rvX
  rw [if_neg h]
  simp only
  rw [hr]
theorem rcL_nil (s : Int × Int × List Ent) : rcL s [] = some s := rfl
theorem rcL_some {s x : Int × Int × List Ent} {r : ByteArray} {rs : List ByteArray} (h : apV s.1 s.2.1 s.2.2 (rdAll r.data.toList) = some x) : rcL s (r :: rs) = rcL x rs := by
  simp only [rcL]
  rw [h]
theorem rcL_none {s : Int × Int × List Ent} {r : ByteArray} {rs : List ByteArray} (h : apV s.1 s.2.1 s.2.2 (rdAll r.data.toList) = none) : rcL s (r :: rs) = none := by
  simp only [rcL]
  rw [h]
theorem rcL_ok : ∀ (F : List ByteArray) (s x : Int × Int × List Ent), s.2.2.length ≤ 60 → rcL s F = some x → x.2.2.length ≤ 60
  | [], s, x, h, hr => by cases hr; exact h
  | r :: rs, s, x, h, hr => by
    cases ha : apV s.1 s.2.1 s.2.2 (rdAll r.data.toList) with
    | none => rw [rcL_none ha] at hr; cases hr
    | some y =>
      rw [rcL_some ha] at hr
      exact rcL_ok rs y x (stOK_facts (apV_ok ha)).2.2.2.2.1 hr
theorem rvX_length (d : ByteArray) (x : List ByteArray × Nat × Int) : (rvX d x).1.2.2.length ≤ 60 := by
  unfold rvX
  split
  · simp
  split
  · simp
  · next h => exact rcL_ok _ _ _ (by simp) h
theorem Fresh.drew {α : Type} {enc : α → List Value} {sz : Nat} {e : TypeId} {B : Nat} {v : Value} {xs : List α} {w : World} (h : Fresh enc e sz B v xs w) : Fresh enc e sz B v xs w.drew := h.below ((Below.refl _ _).drew)
theorem ownNe_alloc {α : Type} {enc : α → List Value} {sz : Nat} {e : TypeId} {v : Value} {xs : List α} {w wr : World} {o : Obj} (h : Fresh enc e sz ((wr.alloc o).drew).heap.size v xs w) : v.ownBlock ≠ some wr.heap.size := fun hk => by
  have h1 := (Fresh.lt h hk).1
  rw [World.size_drew, World.size_alloc] at h1
  omega
theorem Fresh.setNe {α : Type} {enc : α → List Value} {sz : Nat} {e : TypeId} {B : Nat} {v : Value} {xs : List α} {w : World} (h : Fresh enc e sz B v xs w) {b : Nat} (hne : v.ownBlock ≠ some b) (o : Nat) (u : Value) : Fresh enc e sz B v xs (w.setCell ⟨b, o, none⟩ u) :=
  h.kept (grown_setCell w b o u) (.inr hne)
end Go.Proofs.Ytmdjcoeijlnloaa
