/- Regions that draw their order, whose operations only read and whose callees change nothing that was there: one walk in the order of the text. Plain lemmas, no program. -/
import Derived.WalkKit
import Derived.Below
import Derived.Deep.Quiet
import Derived.Deep.QuietTactic
import Derived.BigQuiet
namespace Go.Proofs.YtlhhlmalihajcaaDoor
set_option linter.unusedVariables false
set_option linter.unusedSimpArgs false
open Go.RowKit
open Classical in
/-- Some world in which all blocks of w are as in w. -/
noncomputable def extW (w x : World) : World := if Below w.heap.size w x then x else w
theorem extW_below (w x : World) : Below w.heap.size w (extW w x) := by
  unfold extW
  split
  · assumption
  · exact Below.refl _ _
theorem extW_self {w x : World} (h : Below w.heap.size w x) : extW w x = x := by
  unfold extW
  rw [if_pos h]
theorem extW_cell {w : World} {b : Nat} (h : b < w.heap.size) : ∀ (x : World) (o : Nat), (extW w x).cell? ⟨b, o, none⟩ = w.cell? ⟨b, o, none⟩ :=
  fun x o => (extW_below w x).cell (p := ⟨b, o, none⟩) h
theorem wp_region_quietx {P : Program} {id : Nat} {Q : Exit → Act → World → Prop} {a : Act} {w : World} {l : List Oper} (w0 : World) (h0 : w0 = w) (hm : P.follows .mixedOrders = true) (hB : Region.lexB .any l.toArray = true)
    (h : wpQuiet P l.toArray (fun w' => ∃ x, w' = extW w0 x) (fun a' => ∀ w', (∃ x, w' = extW w0 x) → Q .normal a' w') l a) : (Code.region id l.toArray true).wp P Q a w := by
  subst h0
  exact wp_region_quiet (C := fun w' => ∃ x, w' = extW w0 x) hm hB ⟨w0.drew, (extW_self ((Below.refl _ _).drew)).symm⟩ (by simpa using h)
theorem Calls.quietx {P : Program} {f : FuncId} {args : Array Value} {w x : World} {v : Value}
    (h : Calls P f args (extW w x) fun e w' => e = .returned v ∧ Below (extW w x).heap.size (extW w x) w') : Calls P f args (extW w x) fun e w'' => e = .returned v ∧ ∃ y, w'' = extW w y :=
  h.mono fun _ w' ⟨he, hb⟩ => ⟨he, w', (extW_self ((extW_below w x).trans (hb.mono (extW_below w x).size))).symm⟩
theorem Calls.quietx_same {P : Program} {f : FuncId} {args : Array Value} {w x : World} {v : Value}
    (h : Calls P f args (extW w x) fun e w' => e = .returned v ∧ extW w x = w') : Calls P f args (extW w x) fun e w'' => e = .returned v ∧ ∃ y, w'' = extW w y :=
  h.mono fun _ w' ⟨he, hb⟩ => ⟨he, x, hb.symm⟩
end Go.Proofs.YtlhhlmalihajcaaDoor
