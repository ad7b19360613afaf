/-
  DERIVED. GIVEN WITH THE SEED: THE CARDS: each row of YtjmpgeffkdjpdaaGreatDoorRows.lean that lists a variable, with what it lists TIED to the program's text (the seventh form; the later family's looks); each row that meets fmt, with fmt's text TOLD by the authors' own Lean function (tested against real Go, not proved from fmt's source: count such statements apart). THE CARD IS WHAT COUNTS. Prove the row's statement (the work); the ties are given (YtjmpgeffkdjpdaaGreatDoorTie.lean); close each card by the builder's one call (the guide's Derived/Test/ToyasCard.lean, 'card_holds'). Laid BY PROGRAM, IN A SANDBOX (cutbox-door.mjs). By AI agents, Wed Nov 11 2026. No macro, syntax, notation, axiom, sorry.
-/
import Derived.Test.YtjmpgeffkdjpdaaGreatDoorRows
import GoSem.ClaimSeven
namespace Go.Proofs.YtjmpgeffkdjpdaaGreatDoor
namespace Rows

/-- THE TIED CARD OF 'laws.FnResize'. -/
def fnResizeCard : Claim7 := { stood := { row := fnResizeRow, standIns := [], harness := (true, "ffbd75a9134906c58089c102deb558f93b5b8d6148756965b8f25dfd65a36cee"), looks := false }, kinds := [], alts := [], laidByText := true, laidKinds := [.data, .pinned], laidTests := true, laidLooks := .later }
def FnResizeCardSaid : Prop := Claim7.holds Tryz.pinned (.plain (OpenSpec.ofChange fnResizeSpec)) fnResizeCard

/-- THE TIED CARD OF 'laws.FnScreen'. -/
def fnScreenCard : Claim7 := { stood := { row := fnScreenRow, standIns := [], harness := (true, "ffbd75a9134906c58089c102deb558f93b5b8d6148756965b8f25dfd65a36cee"), looks := false }, kinds := [], alts := [], laidByText := true, laidKinds := [.data, .pinned], laidTests := true, laidLooks := .later }
def FnScreenCardSaid : Prop := Claim7.holds Tryz.pinned (.plain (OpenSpec.ofChange fnScreenSpec)) fnScreenCard

/-- THE TIED CARD OF 'laws.FnFeed'. -/
def fnFeedCard : Claim7 := { stood := { row := fnFeedRow, standIns := [], harness := (true, "ffbd75a9134906c58089c102deb558f93b5b8d6148756965b8f25dfd65a36cee"), looks := false }, kinds := [], alts := [], laidByText := true, laidKinds := [.data, .pinned], laidTests := true, laidLooks := .later }
def FnFeedCardSaid : Prop := Claim7.holds Tryz.pinned (.plain (OpenSpec.ofChange fnFeedSpec)) fnFeedCard

/-- THE SECOND FORM's CARD OF 'laws.FnResize'. -/
def fnResizeUptoCard : Claim7 := { stood := { row := fnResizeUptoRow, standIns := [], harness := (true, "ffbd75a9134906c58089c102deb558f93b5b8d6148756965b8f25dfd65a36cee"), looks := false }, kinds := [], alts := [], laidByText := true, laidKinds := [.data, .pinned], laidTests := true, laidLooks := .later }
def FnResizeUptoCardSaid : Prop := Claim7.holds Tryz.pinned (.plain (OpenSpec.upto fnResizeSpec)) fnResizeUptoCard

/-- THE SECOND FORM's CARD OF 'laws.FnScreen'. -/
def fnScreenUptoCard : Claim7 := { stood := { row := fnScreenUptoRow, standIns := [], harness := (true, "ffbd75a9134906c58089c102deb558f93b5b8d6148756965b8f25dfd65a36cee"), looks := false }, kinds := [], alts := [], laidByText := true, laidKinds := [.data, .pinned], laidTests := true, laidLooks := .later }
def FnScreenUptoCardSaid : Prop := Claim7.holds Tryz.pinned (.plain (OpenSpec.upto fnScreenSpec)) fnScreenUptoCard

/-- THE SECOND FORM's CARD OF 'laws.FnFeed'. -/
def fnFeedUptoCard : Claim7 := { stood := { row := fnFeedUptoRow, standIns := [], harness := (true, "ffbd75a9134906c58089c102deb558f93b5b8d6148756965b8f25dfd65a36cee"), looks := false }, kinds := [], alts := [], laidByText := true, laidKinds := [.data, .pinned], laidTests := true, laidLooks := .later }
def FnFeedUptoCardSaid : Prop := Claim7.holds Tryz.pinned (.plain (OpenSpec.upto fnFeedSpec)) fnFeedUptoCard
end Rows
end Go.Proofs.YtjmpgeffkdjpdaaGreatDoor
