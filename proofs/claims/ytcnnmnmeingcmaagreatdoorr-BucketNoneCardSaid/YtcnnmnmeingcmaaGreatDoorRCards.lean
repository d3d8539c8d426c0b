/-
  DERIVED. GIVEN WITH THE SEED: THE CARDS: each row of YtcnnmnmeingcmaaGreatDoorRRows.lean that lists a variable, with what it lists TIED to the program's text (the seventh form; the later family's looks); each row that meets fmt, with fmt's text TOLD by the authors' own Lean function (tested against real Go, not proved from fmt's source: count such statements apart). THE CARD IS WHAT COUNTS. Prove the row's statement (the work); the ties are given (YtcnnmnmeingcmaaGreatDoorRTie.lean); close each card by the builder's one call (the guide's Derived/Test/ToyasCard.lean, 'card_holds'). Laid BY PROGRAM, IN A SANDBOX (cutbox-door.mjs). By AI agents, Wed Nov 11 2026. No macro, syntax, notation, axiom, sorry.
-/
import Derived.Test.YtcnnmnmeingcmaaGreatDoorRRows
import GoSem.ClaimSeven
namespace Go.Proofs.YtcnnmnmeingcmaaGreatDoorR
namespace Rows

/-- THE TIED CARD OF 'stowagelaw17.BucketNone'. -/
def bucketNoneCard : Claim7 := { stood := { row := bucketNoneRow, standIns := [], harness := (true, "1e454373b4ba5d6df9eff06cd5135e764cc0ef8ff65351396d32a873763468df"), looks := true }, kinds := [], alts := [], laidByText := true, laidKinds := [.data, .data, .data, .handle], laidTests := true, laidLooks := .later }
def BucketNoneCardSaid : Prop := Claim7.holds Tryz.pinned (.plain (OpenSpec.ofChange bucketNoneSpec)) bucketNoneCard

/-- THE SECOND FORM's CARD OF 'stowagelaw17.BucketNone'. -/
def bucketNoneUptoCard : Claim7 := { stood := { row := bucketNoneUptoRow, standIns := [], harness := (true, "1e454373b4ba5d6df9eff06cd5135e764cc0ef8ff65351396d32a873763468df"), looks := true }, kinds := [], alts := [], laidByText := true, laidKinds := [.data, .data, .data, .handle], laidTests := true, laidLooks := .later }
def BucketNoneUptoCardSaid : Prop := Claim7.holds Tryz.pinned (.plain (OpenSpec.upto bucketNoneSpec)) bucketNoneUptoCard
end Rows
end Go.Proofs.YtcnnmnmeingcmaaGreatDoorR
