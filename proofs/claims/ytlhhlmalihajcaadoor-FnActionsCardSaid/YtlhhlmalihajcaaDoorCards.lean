/-
  DERIVED. GIVEN WITH THE SEED: THE CARDS: each row of YtlhhlmalihajcaaDoorRows.lean that lists a variable, with what it lists TIED to the program's text (the seventh form; the later family's looks); each row that meets fmt, with fmt's text TOLD by the authors' own Lean function (tested against real Go, not proved from fmt's source: count such statements apart). THE CARD IS WHAT COUNTS. Prove the row's statement (the work); the ties are given (YtlhhlmalihajcaaDoorTie.lean); close each card by the builder's one call (the guide's Derived/Test/ToyasCard.lean, 'card_holds'). Laid BY PROGRAM, IN A SANDBOX (cutbox-door.mjs). By AI agents, Wed Nov 11 2026. No macro, syntax, notation, axiom, sorry.
-/
import Derived.Test.YtlhhlmalihajcaaDoorRows
import GoSem.ClaimSeven
namespace Go.Proofs.YtlhhlmalihajcaaDoor
namespace Rows

/-- THE TIED CARD OF 'laws.FnPieces'. -/
def fnPiecesCard : Claim7 := { stood := { row := fnPiecesRow, standIns := [], harness := (true, "05846fea5c9a64b9555df6302008e22e854597f0c8f584b587de17cee55c3bbd"), looks := false }, kinds := [], alts := [], laidByText := true, laidKinds := [.data, .pinned], laidTests := true, laidLooks := .later }
def FnPiecesCardSaid : Prop := Claim7.holds Tryd.pinned (.plain (OpenSpec.ofChange fnPiecesSpec)) fnPiecesCard

/-- THE TIED CARD OF 'laws.FnExactParseBytes'. -/
def fnExactParseBytesCard : Claim7 := { stood := { row := fnExactParseBytesRow, standIns := [], harness := (true, "05846fea5c9a64b9555df6302008e22e854597f0c8f584b587de17cee55c3bbd"), looks := false }, kinds := [], alts := [], laidByText := true, laidKinds := [.data, .pinned], laidTests := true, laidLooks := .later }
def FnExactParseBytesCardSaid : Prop := Claim7.holds Tryd.pinned (.plain (OpenSpec.ofChange fnExactParseBytesSpec)) fnExactParseBytesCard

/-- THE TIED CARD OF 'laws.FnActions'. -/
def fnActionsCard : Claim7 := { stood := { row := fnActionsRow, standIns := [], harness := (true, "05846fea5c9a64b9555df6302008e22e854597f0c8f584b587de17cee55c3bbd"), looks := false }, kinds := [], alts := [], laidByText := true, laidKinds := [.data, .data, .data, .data, .pinned], laidTests := true, laidLooks := .later }
def FnActionsCardSaid : Prop := Claim7.holds Tryd.pinned (.plain (OpenSpec.ofChange fnActionsSpec)) fnActionsCard

/-- THE SECOND FORM's CARD OF 'laws.FnPieces'. -/
def fnPiecesUptoCard : Claim7 := { stood := { row := fnPiecesUptoRow, standIns := [], harness := (true, "05846fea5c9a64b9555df6302008e22e854597f0c8f584b587de17cee55c3bbd"), looks := false }, kinds := [], alts := [], laidByText := true, laidKinds := [.data, .pinned], laidTests := true, laidLooks := .later }
def FnPiecesUptoCardSaid : Prop := Claim7.holds Tryd.pinned (.plain (OpenSpec.upto fnPiecesSpec)) fnPiecesUptoCard

/-- THE SECOND FORM's CARD OF 'laws.FnExactParseBytes'. -/
def fnExactParseBytesUptoCard : Claim7 := { stood := { row := fnExactParseBytesUptoRow, standIns := [], harness := (true, "05846fea5c9a64b9555df6302008e22e854597f0c8f584b587de17cee55c3bbd"), looks := false }, kinds := [], alts := [], laidByText := true, laidKinds := [.data, .pinned], laidTests := true, laidLooks := .later }
def FnExactParseBytesUptoCardSaid : Prop := Claim7.holds Tryd.pinned (.plain (OpenSpec.upto fnExactParseBytesSpec)) fnExactParseBytesUptoCard

/-- THE SECOND FORM's CARD OF 'laws.FnActions'. -/
def fnActionsUptoCard : Claim7 := { stood := { row := fnActionsUptoRow, standIns := [], harness := (true, "05846fea5c9a64b9555df6302008e22e854597f0c8f584b587de17cee55c3bbd"), looks := false }, kinds := [], alts := [], laidByText := true, laidKinds := [.data, .data, .data, .data, .pinned], laidTests := true, laidLooks := .later }
def FnActionsUptoCardSaid : Prop := Claim7.holds Tryd.pinned (.plain (OpenSpec.upto fnActionsSpec)) fnActionsUptoCard
end Rows
end Go.Proofs.YtlhhlmalihajcaaDoor
