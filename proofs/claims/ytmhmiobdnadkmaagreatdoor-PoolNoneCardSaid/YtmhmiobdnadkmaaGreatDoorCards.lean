/-
  DERIVED. GIVEN WITH THE SEED: THE CARDS: each row of YtmhmiobdnadkmaaGreatDoorRows.lean that lists a variable, with what it lists TIED to the program's text (the seventh form; the later family's looks); each row that meets fmt, with fmt's text TOLD by the authors' own Lean function (tested against real Go, not proved from fmt's source: count such statements apart). THE CARD IS WHAT COUNTS. Prove the row's statement (the work); the ties are given (YtmhmiobdnadkmaaGreatDoorTie.lean); close each card by the builder's one call (the guide's Derived/Test/ToyasCard.lean, 'card_holds'). Laid BY PROGRAM, IN A SANDBOX (cutbox-door.mjs). By AI agents, Wed Nov 11 2026. No macro, syntax, notation, axiom, sorry.
-/
import Derived.Test.YtmhmiobdnadkmaaGreatDoorRows
import GoSem.ClaimSeven
namespace Go.Proofs.YtmhmiobdnadkmaaGreatDoor
namespace Rows

/-- THE TIED CARD OF 'stowagelaw12.ErasureKnown'. -/
def erasureKnownCard : Claim7 := { stood := { row := erasureKnownRow, standIns := [], harness := (true, "89016ce945376f0264326d8e57ae882617041e4572d72bd23180bdf3123dc5be"), looks := true }, kinds := [], alts := [], laidByText := true, laidKinds := [.handle], laidTests := true, laidLooks := .later }
def ErasureKnownCardSaid : Prop := Claim7.holds Tryz.pinned (.plain (OpenSpec.ofChange erasureKnownSpec)) erasureKnownCard

/-- THE TIED CARD OF 'stowagelaw12.ErasureNone'. -/
def erasureNoneCard : Claim7 := { stood := { row := erasureNoneRow, standIns := [], harness := (true, "89016ce945376f0264326d8e57ae882617041e4572d72bd23180bdf3123dc5be"), looks := true }, kinds := [], alts := [], laidByText := true, laidKinds := [.handle], laidTests := true, laidLooks := .later }
def ErasureNoneCardSaid : Prop := Claim7.holds Tryz.pinned (.plain (OpenSpec.ofChange erasureNoneSpec)) erasureNoneCard

/-- THE TIED CARD OF 'stowagelaw15.PoolKnown'. -/
def poolKnownCard : Claim7 := { stood := { row := poolKnownRow, standIns := [], harness := (true, "89016ce945376f0264326d8e57ae882617041e4572d72bd23180bdf3123dc5be"), looks := true }, kinds := [], alts := [], laidByText := true, laidKinds := [.handle], laidTests := true, laidLooks := .later }
def PoolKnownCardSaid : Prop := Claim7.holds Tryz.pinned (.plain (OpenSpec.ofChange poolKnownSpec)) poolKnownCard

/-- THE TIED CARD OF 'stowagelaw15.PoolNone'. -/
def poolNoneCard : Claim7 := { stood := { row := poolNoneRow, standIns := [], harness := (true, "89016ce945376f0264326d8e57ae882617041e4572d72bd23180bdf3123dc5be"), looks := true }, kinds := [], alts := [], laidByText := true, laidKinds := [.handle], laidTests := true, laidLooks := .later }
def PoolNoneCardSaid : Prop := Claim7.holds Tryz.pinned (.plain (OpenSpec.ofChange poolNoneSpec)) poolNoneCard

/-- THE SECOND FORM's CARD OF 'stowagelaw12.ErasureKnown'. -/
def erasureKnownUptoCard : Claim7 := { stood := { row := erasureKnownUptoRow, standIns := [], harness := (true, "89016ce945376f0264326d8e57ae882617041e4572d72bd23180bdf3123dc5be"), looks := true }, kinds := [], alts := [], laidByText := true, laidKinds := [.handle], laidTests := true, laidLooks := .later }
def ErasureKnownUptoCardSaid : Prop := Claim7.holds Tryz.pinned (.plain (OpenSpec.upto erasureKnownSpec)) erasureKnownUptoCard

/-- THE SECOND FORM's CARD OF 'stowagelaw12.ErasureNone'. -/
def erasureNoneUptoCard : Claim7 := { stood := { row := erasureNoneUptoRow, standIns := [], harness := (true, "89016ce945376f0264326d8e57ae882617041e4572d72bd23180bdf3123dc5be"), looks := true }, kinds := [], alts := [], laidByText := true, laidKinds := [.handle], laidTests := true, laidLooks := .later }
def ErasureNoneUptoCardSaid : Prop := Claim7.holds Tryz.pinned (.plain (OpenSpec.upto erasureNoneSpec)) erasureNoneUptoCard

/-- THE SECOND FORM's CARD OF 'stowagelaw15.PoolKnown'. -/
def poolKnownUptoCard : Claim7 := { stood := { row := poolKnownUptoRow, standIns := [], harness := (true, "89016ce945376f0264326d8e57ae882617041e4572d72bd23180bdf3123dc5be"), looks := true }, kinds := [], alts := [], laidByText := true, laidKinds := [.handle], laidTests := true, laidLooks := .later }
def PoolKnownUptoCardSaid : Prop := Claim7.holds Tryz.pinned (.plain (OpenSpec.upto poolKnownSpec)) poolKnownUptoCard

/-- THE SECOND FORM's CARD OF 'stowagelaw15.PoolNone'. -/
def poolNoneUptoCard : Claim7 := { stood := { row := poolNoneUptoRow, standIns := [], harness := (true, "89016ce945376f0264326d8e57ae882617041e4572d72bd23180bdf3123dc5be"), looks := true }, kinds := [], alts := [], laidByText := true, laidKinds := [.handle], laidTests := true, laidLooks := .later }
def PoolNoneUptoCardSaid : Prop := Claim7.holds Tryz.pinned (.plain (OpenSpec.upto poolNoneSpec)) poolNoneUptoCard
end Rows
end Go.Proofs.YtmhmiobdnadkmaaGreatDoor
