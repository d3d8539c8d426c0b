/-
  DERIVED. GIVEN WITH THE SEED: THE CARDS: each row of YtkjmencdhemiaaaGreatDoorRows.lean that lists a variable, with what it lists TIED to the program's text (the seventh form; the later family's looks); each row that meets fmt, with fmt's text TOLD by the authors' own Lean function (tested against real Go, not proved from fmt's source: count such statements apart). THE CARD IS WHAT COUNTS. Prove the row's statement (the work); the ties are given (YtkjmencdhemiaaaGreatDoorTie.lean); close each card by the builder's one call (the guide's Derived/Test/ToyasCard.lean, 'card_holds'). Laid BY PROGRAM, IN A SANDBOX (cutbox-door.mjs). By AI agents, Wed Nov 11 2026. No macro, syntax, notation, axiom, sorry.
-/
import Derived.Test.YtkjmencdhemiaaaGreatDoorRows
import GoSem.ClaimSeven
namespace Go.Proofs.YtkjmencdhemiaaaGreatDoor
namespace Rows

/-- THE TIED CARD OF 'stowagelaw12.ErasureNone'. -/
def erasureNoneCard : Claim7 := { stood := { row := erasureNoneRow, standIns := [], harness := (true, "1ea3e3198e07ce85f88caf1554b2c2cc1ed54dc8d1818efd805abf7e04eaeec5"), looks := true }, kinds := [], alts := [], laidByText := true, laidKinds := [.handle], laidTests := true, laidLooks := .later }
def ErasureNoneCardSaid : Prop := Claim7.holds Tryz.pinned (.plain (OpenSpec.ofChange erasureNoneSpec)) erasureNoneCard

/-- THE SECOND FORM's CARD OF 'stowagelaw12.ErasureNone'. -/
def erasureNoneUptoCard : Claim7 := { stood := { row := erasureNoneUptoRow, standIns := [], harness := (true, "1ea3e3198e07ce85f88caf1554b2c2cc1ed54dc8d1818efd805abf7e04eaeec5"), looks := true }, kinds := [], alts := [], laidByText := true, laidKinds := [.handle], laidTests := true, laidLooks := .later }
def ErasureNoneUptoCardSaid : Prop := Claim7.holds Tryz.pinned (.plain (OpenSpec.upto erasureNoneSpec)) erasureNoneUptoCard
end Rows
end Go.Proofs.YtkjmencdhemiaaaGreatDoor
