/- Short names for the steps that the printed proofs repeat. -/
import Derived.OrdersHeld
import Derived.RegionTactic
import Derived.Deep.RegionLaw
import Derived.Deep.RegionHeld
import Derived.Below
import Derived.Lib.Hide
import Derived.WalkKit
import Derived.WalkSpells
import Derived.Deep.Quiet
import Derived.Lib.ItoaNum
import Derived.WalkLawsBesides
import Derived.LoopTactic
import Derived.Deep.LoopGhost
import Derived.Deep.QuietTactic
import Derived.BigQuiet
import Derived.BigRegion
import Derived.Lib.Bytealg
import Derived.Deep.DeepCutAuto
import Derived.Deep.AppendSrc
import Derived.Deep.Upon
import Derived.Laws.IdiomStrings
import Derived.OwnWalk
import Derived.StillTailTactics
import Derived.Deep.RegionWith
import Derived.Deep.RegionHeld3
import Derived.Lib.Strings
import Derived.Shelf.Unicode.DecodeAny
import Derived.Shelf.Strconv.Itoa3
import Derived.Lib.AppendIntMem
import Derived.Lib.LazyBuf
import Derived.Laws.BitsAllLaws
import Derived.Laws.Bits64
import Derived.Laws.ShiftsVar
import Derived.Lib.Builder
import Derived.Lib.AppendStr
import Derived.Lib.UnsafeStr
import Derived.Lib.MakeNoZero
import Derived.Laws.Externs
import Derived.Shelf.Strings.Builder1
import Derived.Laws.CopyOwn
import Derived.Laws.IdiomCopy
import Derived.Lib.Bits
import Derived.Laws.Bits128
import Derived.ProofKit
import Derived.OpenShut
import Derived.Carry
import Derived.Lib.SmallJoins
import Derived.Deep.Slices
import Derived.Lib.LaidU8T
import Derived.PinnedBridge
import Derived.Lay
import Derived.LaidMore
import Derived.Stop.Joined
import Derived.SevenTiedAt
import Derived.ChangeMaps5
import Derived.Test.YtjmpgeffkdjpdaaGreatDoorProg
namespace Go.Proofs.YtjmpgeffkdjpdaaGreatDoor
open Go.RowKit
theorem j1 : type_of% @List.getElem_toArray := @List.getElem_toArray
theorem j2 : type_of% @List.getElem_cons_zero := @List.getElem_cons_zero
theorem j3 : type_of% @List.getElem_cons_succ := @List.getElem_cons_succ
theorem j4 : type_of% @List.setIfInBounds_toArray := @List.setIfInBounds_toArray
theorem j5 : type_of% @List.set_cons_zero := @List.set_cons_zero
theorem j6 : type_of% @List.set_cons_succ := @List.set_cons_succ
section
variable {B b o : Nat} {w w' : World} {v : Value} {M : Nat → Prop}
theorem kC (h : Below B w w') (l : b < B) (y : w.cell? ⟨b, o, none⟩ = some v) : w'.cell? ⟨b, o, none⟩ = some v := (h.cell (p := ⟨b, o, none⟩) l).trans y
theorem sO {k : Nat} {u : Value} (y : w.cell? ⟨b, o, none⟩ = some v) (h : o ≠ k := by omega) : (w.setCell ⟨b, k, none⟩ u).cell? ⟨b, o, none⟩ = some v := (World.cell?_setCell_other _ _ _ _ (fun e => by injection e with _ e2; omega)).trans y
theorem kF (h : Below B w w') (l : b < B) (y : w.frozen? ⟨b, o, none⟩ = false) : w'.frozen? ⟨b, o, none⟩ = false := (h.frozen (p := ⟨b, o, none⟩) l).trans y
end
theorem b12 {b : Nat} {w w' : World} {v0 v1 v2 v3 v4 v5 v6 v7 v8 v9 v10 v11 : Value} (h : Below b w w') : Below b w (((((((((((((w'.setCell ⟨b, 0, none⟩ v0).setCell ⟨b, 1, none⟩ v1).setCell ⟨b, 2, none⟩ v2).setCell ⟨b, 3, none⟩ v3).setCell ⟨b, 4, none⟩ v4).setCell ⟨b, 5, none⟩ v5).setCell ⟨b, 6, none⟩ v6).setCell ⟨b, 7, none⟩ v7).setCell ⟨b, 8, none⟩ v8).setCell ⟨b, 9, none⟩ v9).setCell ⟨b, 10, none⟩ v10).setCell ⟨b, 11, none⟩ v11)) := ((((((((((((h.setCell (Nat.le_refl _) _).setCell (Nat.le_refl _) _).setCell (Nat.le_refl _) _).setCell (Nat.le_refl _) _).setCell (Nat.le_refl _) _).setCell (Nat.le_refl _) _).setCell (Nat.le_refl _) _).setCell (Nat.le_refl _) _).setCell (Nat.le_refl _) _).setCell (Nat.le_refl _) _).setCell (Nat.le_refl _) _).setCell (Nat.le_refl _) _)
theorem zz {p : Prop} (h : p) : Hid p := Lib.hid h
theorem eX {α : Sort _} (a : α) : ∃ x, a = x := ⟨_, rfl⟩
theorem bA {w : World} {x : Obj} : Below w.heap.size w (w.alloc x) := (Below.refl _ _).alloc (Nat.le_refl _) _
theorem iIq (a : Int) (h1 : -9223372036854775808 ≤ a := by omega) (h2 : a < 9223372036854775808 := by omega) : IntKind.i64.wrap a = a := IntWalk.i64_in _ ⟨by omega, by omega⟩
end Go.Proofs.YtjmpgeffkdjpdaaGreatDoor
