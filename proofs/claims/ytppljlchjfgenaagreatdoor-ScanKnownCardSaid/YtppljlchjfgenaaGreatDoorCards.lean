/-
  DERIVED. GIVEN WITH THE SEED: THE CARDS: each row of YtppljlchjfgenaaGreatDoorRows.lean that lists a variable, with what it lists TIED to the program's text (the seventh form; the later family's looks); each row that meets fmt, with fmt's text TOLD by the authors' own Lean function (tested against real Go, not proved from fmt's source: count such statements apart). THE CARD IS WHAT COUNTS. Prove the row's statement (the work); the ties are given (YtppljlchjfgenaaGreatDoorTie.lean); close each card by the builder's one call (the guide's Derived/Test/ToyasCard.lean, 'card_holds'). Laid BY PROGRAM, IN A SANDBOX (cutbox-door.mjs). By AI agents, Wed Nov 11 2026. No macro, syntax, notation, axiom, sorry.
-/
import Derived.Test.YtppljlchjfgenaaGreatDoorRows
import GoSem.ClaimSeven
namespace Go.Proofs.YtppljlchjfgenaaGreatDoor
namespace Rows

/-- THE TIED CARD OF 'stowagelaw18.ShelfKnown'. -/
def shelfKnownCard : Claim7 := { stood := { row := shelfKnownRow, standIns := [], harness := (true, "c6d52a58d778a300f0e6183b726d1ab9b1a8549ae0ee30100d5dd69e3c035fda"), looks := true }, kinds := [], alts := [], laidByText := true, laidKinds := [.data, .data, .data, .handle], laidTests := true, laidLooks := .later }
def ShelfKnownCardSaid : Prop := Claim7.holds Tryz.pinned (.plain (OpenSpec.ofChange shelfKnownSpec)) shelfKnownCard

/-- THE TIED CARD OF 'stowagelaw23.ScanKnown'. -/
def scanKnownCard : Claim7 := { stood := { row := scanKnownRow, standIns := [], harness := (true, "c6d52a58d778a300f0e6183b726d1ab9b1a8549ae0ee30100d5dd69e3c035fda"), looks := true }, kinds := [], alts := [], laidByText := true, laidKinds := [.data, .data, .data, .handle], laidTests := true, laidLooks := .later }
def ScanKnownCardSaid : Prop := Claim7.holds Tryz.pinned (.plain (OpenSpec.ofChange scanKnownSpec)) scanKnownCard

/-- THE TIED CARD OF 'stowagelaw23.ScanNone'. -/
def scanNoneCard : Claim7 := { stood := { row := scanNoneRow, standIns := [], harness := (true, "c6d52a58d778a300f0e6183b726d1ab9b1a8549ae0ee30100d5dd69e3c035fda"), looks := true }, kinds := [], alts := [], laidByText := true, laidKinds := [.data, .data, .data, .handle], laidTests := true, laidLooks := .later }
def ScanNoneCardSaid : Prop := Claim7.holds Tryz.pinned (.plain (OpenSpec.ofChange scanNoneSpec)) scanNoneCard

/-- THE SECOND FORM's CARD OF 'stowagelaw18.ShelfKnown'. -/
def shelfKnownUptoCard : Claim7 := { stood := { row := shelfKnownUptoRow, standIns := [], harness := (true, "c6d52a58d778a300f0e6183b726d1ab9b1a8549ae0ee30100d5dd69e3c035fda"), looks := true }, kinds := [], alts := [], laidByText := true, laidKinds := [.data, .data, .data, .handle], laidTests := true, laidLooks := .later }
def ShelfKnownUptoCardSaid : Prop := Claim7.holds Tryz.pinned (.plain (OpenSpec.upto shelfKnownSpec)) shelfKnownUptoCard

/-- THE SECOND FORM's CARD OF 'stowagelaw23.ScanKnown'. -/
def scanKnownUptoCard : Claim7 := { stood := { row := scanKnownUptoRow, standIns := [], harness := (true, "c6d52a58d778a300f0e6183b726d1ab9b1a8549ae0ee30100d5dd69e3c035fda"), looks := true }, kinds := [], alts := [], laidByText := true, laidKinds := [.data, .data, .data, .handle], laidTests := true, laidLooks := .later }
def ScanKnownUptoCardSaid : Prop := Claim7.holds Tryz.pinned (.plain (OpenSpec.upto scanKnownSpec)) scanKnownUptoCard

/-- THE SECOND FORM's CARD OF 'stowagelaw23.ScanNone'. -/
def scanNoneUptoCard : Claim7 := { stood := { row := scanNoneUptoRow, standIns := [], harness := (true, "c6d52a58d778a300f0e6183b726d1ab9b1a8549ae0ee30100d5dd69e3c035fda"), looks := true }, kinds := [], alts := [], laidByText := true, laidKinds := [.data, .data, .data, .handle], laidTests := true, laidLooks := .later }
def ScanNoneUptoCardSaid : Prop := Claim7.holds Tryz.pinned (.plain (OpenSpec.upto scanNoneSpec)) scanNoneUptoCard
end Rows
end Go.Proofs.YtppljlchjfgenaaGreatDoor
