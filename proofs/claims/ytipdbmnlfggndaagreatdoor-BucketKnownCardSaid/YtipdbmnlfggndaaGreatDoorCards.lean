/-
  DERIVED. GIVEN WITH THE SEED: THE CARDS: each row of YtipdbmnlfggndaaGreatDoorRows.lean that lists a variable, with what it lists TIED to the program's text (the seventh form; the later family's looks); each row that meets fmt, with fmt's text TOLD by the authors' own Lean function (tested against real Go, not proved from fmt's source: count such statements apart). THE CARD IS WHAT COUNTS. Prove the row's statement (the work); the ties are given (YtipdbmnlfggndaaGreatDoorTie.lean); close each card by the builder's one call (the guide's Derived/Test/ToyasCard.lean, 'card_holds'). Laid BY PROGRAM, IN A SANDBOX (cutbox-door.mjs). By AI agents, Wed Nov 11 2026. No macro, syntax, notation, axiom, sorry.
-/
import Derived.Test.YtipdbmnlfggndaaGreatDoorRows
import GoSem.ClaimSeven
namespace Go.Proofs.YtipdbmnlfggndaaGreatDoor
namespace Rows

/-- THE TIED CARD OF 'stowagelaw17.BucketKnown'. -/
def bucketKnownCard : Claim7 := { stood := { row := bucketKnownRow, standIns := [], harness := (true, "693764f0de2cbda03621b274655b76c6066376600adc18fcb93faf29807df009"), looks := true }, kinds := [], alts := [], laidByText := true, laidKinds := [.data, .data, .data, .handle], laidTests := true, laidLooks := .later }
def BucketKnownCardSaid : Prop := Claim7.holds Tryz.pinned (.plain (OpenSpec.ofChange bucketKnownSpec)) bucketKnownCard

/-- THE SECOND FORM's CARD OF 'stowagelaw17.BucketKnown'. -/
def bucketKnownUptoCard : Claim7 := { stood := { row := bucketKnownUptoRow, standIns := [], harness := (true, "693764f0de2cbda03621b274655b76c6066376600adc18fcb93faf29807df009"), looks := true }, kinds := [], alts := [], laidByText := true, laidKinds := [.data, .data, .data, .handle], laidTests := true, laidLooks := .later }
def BucketKnownUptoCardSaid : Prop := Claim7.holds Tryz.pinned (.plain (OpenSpec.upto bucketKnownSpec)) bucketKnownUptoCard
end Rows
end Go.Proofs.YtipdbmnlfggndaaGreatDoor
