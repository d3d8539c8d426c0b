/-
  DERIVED. GIVEN WITH THE SEED: THE CARDS: each row of YtoddlefhlicfiaaGreatDoorRRows.lean that lists a variable, with what it lists TIED to the program's text (the seventh form; the later family's looks); each row that meets fmt, with fmt's text TOLD by the authors' own Lean function (tested against real Go, not proved from fmt's source: count such statements apart). THE CARD IS WHAT COUNTS. Prove the row's statement (the work); the ties are given (YtoddlefhlicfiaaGreatDoorRTie.lean); close each card by the builder's one call (the guide's Derived/Test/ToyasCard.lean, 'card_holds'). Laid BY PROGRAM, IN A SANDBOX (cutbox-door.mjs). By AI agents, Wed Nov 11 2026. No macro, syntax, notation, axiom, sorry.
-/
import Derived.Test.YtoddlefhlicfiaaGreatDoorRRows
import GoSem.ClaimSeven
namespace Go.Proofs.YtoddlefhlicfiaaGreatDoorR
namespace Rows

/-- THE TIED CARD OF 'stowagelaw17.BucketBack'. -/
def bucketBackCard : Claim7 := { stood := { row := bucketBackRow, standIns := [], harness := (true, "e26f48ca0c29d4aacb84fa6aee04aa9ca52d0027de3f999c67645a13d71bc1fd"), looks := true }, kinds := [], alts := [], laidByText := true, laidKinds := [.data, .data, .data, .handle], laidTests := true, laidLooks := .later }
def BucketBackCardSaid : Prop := Claim7.holds Tryz.pinned (.plain (OpenSpec.ofChange bucketBackSpec)) bucketBackCard

/-- THE SECOND FORM's CARD OF 'stowagelaw17.BucketBack'. -/
def bucketBackUptoCard : Claim7 := { stood := { row := bucketBackUptoRow, standIns := [], harness := (true, "e26f48ca0c29d4aacb84fa6aee04aa9ca52d0027de3f999c67645a13d71bc1fd"), looks := true }, kinds := [], alts := [], laidByText := true, laidKinds := [.data, .data, .data, .handle], laidTests := true, laidLooks := .later }
def BucketBackUptoCardSaid : Prop := Claim7.holds Tryz.pinned (.plain (OpenSpec.upto bucketBackSpec)) bucketBackUptoCard
end Rows
end Go.Proofs.YtoddlefhlicfiaaGreatDoorR
