/- impl.recordsOf: the records from one state to another. No conditions but sizes. -/
import Derived.Test.YtckaccadgbcohaaFld2
import Derived.Test.YtckaccadgbcohaaCut2
import Derived.Test.YtckaccadgbcohaaOwn2
import Derived.Deep.CutBlock
import Derived.Test.YtckaccadgbcohaaSame
import Derived.Deep.DeepCutAuto
import Derived.Deep.RegionHeld3
namespace Go.Proofs.Ytckaccadgbcohaa
set_option linter.unusedVariables false
set_option linter.unusedSimpArgs false
open Go.RowKit
def str1 (c : UInt8) : ByteArray := strOf [c]
def recT (t v : Int) : ByteArray := strOf (fldL [str1 116, strOf (numL [t, v])])
def recC (k : Nat) : ByteArray := strOf (fldL [str1 99, strOf (numL [(k : Int)])])
def recE (e : Ent) : ByteArray := strOf (fldL [str1 101, strOf (numL [e.1]), e.2])
def chg (t v t' v' : Int) : Bool := t != t' || v != v'
def rec1 (t v t' v' : Int) : List ByteArray := if chg t v t' v' then [recT t' v'] else []
def rec2 (xs ys : List Ent) : List ByteArray := if commonN xs ys < xs.length then [recC (commonN xs ys)] else []
def rec3 (xs ys : List Ent) : List ByteArray := (ys.drop (commonN xs ys)).map recE
def recsL (t v : Int) (xs : List Ent) (t' v' : Int) (ys : List Ent) : List ByteArray := rec1 t v t' v' ++ rec2 xs ys ++ rec3 xs ys
def TextsR (L : List ByteArray) (w : World) (e : Ending) (w' : World) : Prop :=
  ∃ a c, e = .returned (.slice a L.length c) ∧ Fresh strE 9 1 w.heap.size (.slice a L.length c) L w' ∧ Below w.heap.size w w'
theorem Sl.boxL {α : Type} {enc : α → List Value} {sz : Nat} {w : World} (hs : ∀ x, (enc x).length = sz) (xs : List α) (cs : Array Value) (T : TypeId) (hc : cs.toList = xs.flatMap enc) (b : Nat) (hb : b = w.heap.size) : Sl enc sz (w.alloc (.cells cs T)) (some ⟨b, 0, none⟩) xs := by
  subst hb
  refine .inr ⟨w.heap.size, 0, rfl, by simp, fun i hi j hj => ?_⟩
  rw [Nat.zero_add, World.cell?_alloc_new, ← Array.getElem?_toList, hc, flat_get enc sz hs xs i hi j hj]
theorem fldL_length (fs : List ByteArray) : (fldL fs).length = 1 + (fldB fs).length := by simp [fldL]; omega
theorem Sl.drop' {α : Type} {enc : α → List Value} {sz : Nat} {w : World} {b off : Nat} {xs : List α} (h : Sl enc sz w (some ⟨b, off, none⟩) xs) (k : Nat) (hk : k < xs.length) : Sl enc sz w (some ⟨b, off + k * sz, none⟩) (xs.drop k) := by
  have := h.sub k xs.length hk
  rwa [List.take_of_length_le (by simp)] at this
theorem commonN_le2 (xs ys : List Ent) : commonN xs ys ≤ ys.length := by
  induction xs generalizing ys with
  | nil => simp [commonN]
  | cons x xs ih =>
    cases ys with
    | nil => simp [commonN]
    | cons y ys =>
      simp only [commonN]
      split
      · have := ih ys; simp; omega
      · simp
end Go.Proofs.Ytckaccadgbcohaa
