/-
  DERIVED. GIVEN WITH THE SEED: THE CARDS: each row of YtlemfpipiooiaaaGreatDoorRows.lean that lists a variable, with what it lists TIED to the program's text (the seventh form; the later family's looks); each row that meets fmt, with fmt's text TOLD by the authors' own Lean function (tested against real Go, not proved from fmt's source: count such statements apart). THE CARD IS WHAT COUNTS. Prove the row's statement (the work); the ties are given (YtlemfpipiooiaaaGreatDoorTie.lean); close each card by the builder's one call (the guide's Derived/Test/ToyasCard.lean, 'card_holds'). Laid BY PROGRAM, IN A SANDBOX (cutbox-door.mjs). By AI agents, Wed Nov 11 2026. No macro, syntax, notation, axiom, sorry.
-/
import Derived.Test.YtlemfpipiooiaaaGreatDoorRows
import GoSem.ClaimSeven
namespace Go.Proofs.YtlemfpipiooiaaaGreatDoor
namespace Rows

/-- THE TIED CARD OF 'stowagelaw19.UploadKnown'. -/
def uploadKnownCard : Claim7 := { stood := { row := uploadKnownRow, standIns := [], harness := (true, "4b6988d3de067ee794193b28f32cecac53f5cf7e968774b7db8ac4ad1ed77903"), looks := true }, kinds := [], alts := [], laidByText := true, laidKinds := [.data, .data, .data, .handle], laidTests := true, laidLooks := .later }
def UploadKnownCardSaid : Prop := Claim7.holds Tryz.pinned (.plain (OpenSpec.ofChange uploadKnownSpec)) uploadKnownCard

/-- THE TIED CARD OF 'stowagelaw19.UploadNone'. -/
def uploadNoneCard : Claim7 := { stood := { row := uploadNoneRow, standIns := [], harness := (true, "4b6988d3de067ee794193b28f32cecac53f5cf7e968774b7db8ac4ad1ed77903"), looks := true }, kinds := [], alts := [], laidByText := true, laidKinds := [.data, .data, .data, .handle], laidTests := true, laidLooks := .later }
def UploadNoneCardSaid : Prop := Claim7.holds Tryz.pinned (.plain (OpenSpec.ofChange uploadNoneSpec)) uploadNoneCard

/-- THE SECOND FORM's CARD OF 'stowagelaw19.UploadKnown'. -/
def uploadKnownUptoCard : Claim7 := { stood := { row := uploadKnownUptoRow, standIns := [], harness := (true, "4b6988d3de067ee794193b28f32cecac53f5cf7e968774b7db8ac4ad1ed77903"), looks := true }, kinds := [], alts := [], laidByText := true, laidKinds := [.data, .data, .data, .handle], laidTests := true, laidLooks := .later }
def UploadKnownUptoCardSaid : Prop := Claim7.holds Tryz.pinned (.plain (OpenSpec.upto uploadKnownSpec)) uploadKnownUptoCard

/-- THE SECOND FORM's CARD OF 'stowagelaw19.UploadNone'. -/
def uploadNoneUptoCard : Claim7 := { stood := { row := uploadNoneUptoRow, standIns := [], harness := (true, "4b6988d3de067ee794193b28f32cecac53f5cf7e968774b7db8ac4ad1ed77903"), looks := true }, kinds := [], alts := [], laidByText := true, laidKinds := [.data, .data, .data, .handle], laidTests := true, laidLooks := .later }
def UploadNoneUptoCardSaid : Prop := Claim7.holds Tryz.pinned (.plain (OpenSpec.upto uploadNoneSpec)) uploadNoneUptoCard
end Rows
end Go.Proofs.YtlemfpipiooiaaaGreatDoor
