/-
  No cell of these rows narrows 'for every input' (looked for: loops, veiled, ifaces, maps, wideKeys, modest, calm, conditions, laid).
  DERIVED. THE GIVEN ROWS OF THIS SEAT. 9 by the template 'for every input the law returns true; each argument reads behind the call as it read before'; 0 by the template 'total and deterministic' (their statements: YtpogicakpgpkcaaTotals.lean).
  GIVEN WITH THE SEED: the statements are not yours to turn. If you find one false, say at which input.
  Laid BY PROGRAM, IN A SANDBOX (cutbox-rows.mjs): the forced cells as the released guide's own fill.sh prints them over the translation a1e51c945fae7d6f… (all of the seat's roots in one cut). By AI agents, Wed Nov 11 2026. No macro, syntax, notation, axiom, sorry.
-/
import Derived.Test.YtpogicakpgpkcaaChecked
import GoSem.Claim
import GoSem.ClaimJoined
import GoSem.ClaimMapViews
import Derived.JoinedTies
import Derived.KernelRfl
namespace Go.Proofs.Ytpogicakpgpkcaa
/- THE CELL 'sum', in the pinned program and in every row, IS THE sha256 OF THE DUMP (.gsa) THAT YtpogicakpgpkcaaProg.lean LOADS. Nothing in Lean hashes anything: it is a label: what it is worth is what the hold of that sum in a sandbox is worth. -/
noncomputable def Try.pinned : Pinned := { name := "ytpogicakpgpkcaa", sum := "a1e51c945fae7d6f435e748839bdd6f54dc753146c9b800f4d020045e472f4e4", checked := Try.checked }
namespace Rows
def none {H : Type} : Left H := { results := [], args := [] }

/-- 'stowagelaw01.GfTells': WHATEVER THE INPUT: true; the input reads as it did. -/
def gfTellsSpec : ChangeSpec := { name := "gfTells", fn := fun _ => fun
  | [d1, d2, d3] => { results := [.lit (.bool true)], args := [d1, d2, d3] }
  | _ => none }
def gfTellsRow : OpenClaim := { program := "ytpogicakpgpkcaa", sum := "a1e51c945fae7d6f435e748839bdd6f54dc753146c9b800f4d020045e472f4e4", func := "stowage/stowagelaw01.GfTells", spec := "gfTells", apart := false }
def GfTellsSaid : Prop := gfTellsRow.holds Try.pinned (OpenSpec.ofChange gfTellsSpec)

/-- ITS FALSE NEIGHBOUR: 'it returns false'. Refute it at one input. -/
def gfTellsWrong : ChangeSpec := { name := "gfTells", fn := fun _ => fun
  | [d1, d2, d3] => { results := [.lit (.bool false)], args := [d1, d2, d3] }
  | _ => none }
def GfTellsWrongFalsely : Prop := gfTellsRow.holds Try.pinned (OpenSpec.ofChange gfTellsWrong)

/-- 'stowagelaw01.GfLists': WHATEVER THE INPUT: true; the input reads as it did. -/
def gfListsSpec : ChangeSpec := { name := "gfLists", fn := fun _ => fun
  | [d1, d2, d3] => { results := [.lit (.bool true)], args := [d1, d2, d3] }
  | _ => none }
def gfListsRow : OpenClaim := { program := "ytpogicakpgpkcaa", sum := "a1e51c945fae7d6f435e748839bdd6f54dc753146c9b800f4d020045e472f4e4", func := "stowage/stowagelaw01.GfLists", spec := "gfLists", apart := false }
def GfListsSaid : Prop := gfListsRow.holds Try.pinned (OpenSpec.ofChange gfListsSpec)

/-- ITS FALSE NEIGHBOUR: 'it returns false'. Refute it at one input. -/
def gfListsWrong : ChangeSpec := { name := "gfLists", fn := fun _ => fun
  | [d1, d2, d3] => { results := [.lit (.bool false)], args := [d1, d2, d3] }
  | _ => none }
def GfListsWrongFalsely : Prop := gfListsRow.holds Try.pinned (OpenSpec.ofChange gfListsWrong)

/-- 'stowagelaw01.GfKnown': WHATEVER THE INPUT: true; the input reads as it did. -/
def gfKnownSpec : ChangeSpec := { name := "gfKnown", fn := fun _ => fun
  | [] => { results := [.lit (.bool true)], args := [] }
  | _ => none }
def gfKnownRow : OpenClaim := { program := "ytpogicakpgpkcaa", sum := "a1e51c945fae7d6f435e748839bdd6f54dc753146c9b800f4d020045e472f4e4", func := "stowage/stowagelaw01.GfKnown", spec := "gfKnown", apart := false }
def GfKnownSaid : Prop := gfKnownRow.holds Try.pinned (OpenSpec.ofChange gfKnownSpec)

/-- ITS FALSE NEIGHBOUR: 'it returns false'. Refute it at one input. -/
def gfKnownWrong : ChangeSpec := { name := "gfKnown", fn := fun _ => fun
  | [] => { results := [.lit (.bool false)], args := [] }
  | _ => none }
def GfKnownWrongFalsely : Prop := gfKnownRow.holds Try.pinned (OpenSpec.ofChange gfKnownWrong)

/-- 'stowagelaw01.GfField': WHATEVER THE INPUT: true; the input reads as it did. -/
def gfFieldSpec : ChangeSpec := { name := "gfField", fn := fun _ => fun
  | [d1, d2, d3] => { results := [.lit (.bool true)], args := [d1, d2, d3] }
  | _ => none }
def gfFieldRow : OpenClaim := { program := "ytpogicakpgpkcaa", sum := "a1e51c945fae7d6f435e748839bdd6f54dc753146c9b800f4d020045e472f4e4", func := "stowage/stowagelaw01.GfField", spec := "gfField", apart := false }
def GfFieldSaid : Prop := gfFieldRow.holds Try.pinned (OpenSpec.ofChange gfFieldSpec)

/-- ITS FALSE NEIGHBOUR: 'it returns false'. Refute it at one input. -/
def gfFieldWrong : ChangeSpec := { name := "gfField", fn := fun _ => fun
  | [d1, d2, d3] => { results := [.lit (.bool false)], args := [d1, d2, d3] }
  | _ => none }
def GfFieldWrongFalsely : Prop := gfFieldRow.holds Try.pinned (OpenSpec.ofChange gfFieldWrong)

/-- 'stowagelaw01.GfPowers': WHATEVER THE INPUT: true; the input reads as it did. -/
def gfPowersSpec : ChangeSpec := { name := "gfPowers", fn := fun _ => fun
  | [d1, d2, d3] => { results := [.lit (.bool true)], args := [d1, d2, d3] }
  | _ => none }
def gfPowersRow : OpenClaim := { program := "ytpogicakpgpkcaa", sum := "a1e51c945fae7d6f435e748839bdd6f54dc753146c9b800f4d020045e472f4e4", func := "stowage/stowagelaw01.GfPowers", spec := "gfPowers", apart := false }
def GfPowersSaid : Prop := gfPowersRow.holds Try.pinned (OpenSpec.ofChange gfPowersSpec)

/-- ITS FALSE NEIGHBOUR: 'it returns false'. Refute it at one input. -/
def gfPowersWrong : ChangeSpec := { name := "gfPowers", fn := fun _ => fun
  | [d1, d2, d3] => { results := [.lit (.bool false)], args := [d1, d2, d3] }
  | _ => none }
def GfPowersWrongFalsely : Prop := gfPowersRow.holds Try.pinned (OpenSpec.ofChange gfPowersWrong)

/-- 'stowagelaw22.RuleMore': WHATEVER THE INPUT: true; the input reads as it did. -/
def ruleMoreSpec : ChangeSpec := { name := "ruleMore", fn := fun _ => fun
  | [d1, d2, d3, d4] => { results := [.lit (.bool true)], args := [d1, d2, d3, d4] }
  | _ => none }
def ruleMoreRow : OpenClaim := { program := "ytpogicakpgpkcaa", sum := "a1e51c945fae7d6f435e748839bdd6f54dc753146c9b800f4d020045e472f4e4", func := "stowage/stowagelaw22.RuleMore", spec := "ruleMore", unfollowed := true, recurses := true, apart := false }
def RuleMoreSaid : Prop := ruleMoreRow.holds Try.pinned (OpenSpec.ofChange ruleMoreSpec)

/-- ITS FALSE NEIGHBOUR: 'it returns false'. Refute it at one input. -/
def ruleMoreWrong : ChangeSpec := { name := "ruleMore", fn := fun _ => fun
  | [d1, d2, d3, d4] => { results := [.lit (.bool false)], args := [d1, d2, d3, d4] }
  | _ => none }
def RuleMoreWrongFalsely : Prop := ruleMoreRow.holds Try.pinned (OpenSpec.ofChange ruleMoreWrong)

/-- 'stowagelaw22.RuleTells': WHATEVER THE INPUT: true; the input reads as it did. -/
def ruleTellsSpec : ChangeSpec := { name := "ruleTells", fn := fun _ => fun
  | [d1, d2, d3] => { results := [.lit (.bool true)], args := [d1, d2, d3] }
  | _ => none }
def ruleTellsRow : OpenClaim := { program := "ytpogicakpgpkcaa", sum := "a1e51c945fae7d6f435e748839bdd6f54dc753146c9b800f4d020045e472f4e4", func := "stowage/stowagelaw22.RuleTells", spec := "ruleTells", unfollowed := true, recurses := true, apart := false }
def RuleTellsSaid : Prop := ruleTellsRow.holds Try.pinned (OpenSpec.ofChange ruleTellsSpec)

/-- ITS FALSE NEIGHBOUR: 'it returns false'. Refute it at one input. -/
def ruleTellsWrong : ChangeSpec := { name := "ruleTells", fn := fun _ => fun
  | [d1, d2, d3] => { results := [.lit (.bool false)], args := [d1, d2, d3] }
  | _ => none }
def RuleTellsWrongFalsely : Prop := ruleTellsRow.holds Try.pinned (OpenSpec.ofChange ruleTellsWrong)

/-- 'stowagelaw22.RuleLasts': WHATEVER THE INPUT: true; the input reads as it did. -/
def ruleLastsSpec : ChangeSpec := { name := "ruleLasts", fn := fun _ => fun
  | [d1, d2, d3, d4] => { results := [.lit (.bool true)], args := [d1, d2, d3, d4] }
  | _ => none }
def ruleLastsRow : OpenClaim := { program := "ytpogicakpgpkcaa", sum := "a1e51c945fae7d6f435e748839bdd6f54dc753146c9b800f4d020045e472f4e4", func := "stowage/stowagelaw22.RuleLasts", spec := "ruleLasts", unfollowed := true, recurses := true, apart := false }
def RuleLastsSaid : Prop := ruleLastsRow.holds Try.pinned (OpenSpec.ofChange ruleLastsSpec)

/-- ITS FALSE NEIGHBOUR: 'it returns false'. Refute it at one input. -/
def ruleLastsWrong : ChangeSpec := { name := "ruleLasts", fn := fun _ => fun
  | [d1, d2, d3, d4] => { results := [.lit (.bool false)], args := [d1, d2, d3, d4] }
  | _ => none }
def RuleLastsWrongFalsely : Prop := ruleLastsRow.holds Try.pinned (OpenSpec.ofChange ruleLastsWrong)

/-- 'stowagelaw22.RuleKnown': WHATEVER THE INPUT: true; the input reads as it did. -/
def ruleKnownSpec : ChangeSpec := { name := "ruleKnown", fn := fun _ => fun
  | [] => { results := [.lit (.bool true)], args := [] }
  | _ => none }
def ruleKnownRow : OpenClaim := { program := "ytpogicakpgpkcaa", sum := "a1e51c945fae7d6f435e748839bdd6f54dc753146c9b800f4d020045e472f4e4", func := "stowage/stowagelaw22.RuleKnown", spec := "ruleKnown", unfollowed := true, recurses := true, apart := false }
def RuleKnownSaid : Prop := ruleKnownRow.holds Try.pinned (OpenSpec.ofChange ruleKnownSpec)

/-- ITS FALSE NEIGHBOUR: 'it returns false'. Refute it at one input. -/
def ruleKnownWrong : ChangeSpec := { name := "ruleKnown", fn := fun _ => fun
  | [] => { results := [.lit (.bool false)], args := [] }
  | _ => none }
def RuleKnownWrongFalsely : Prop := ruleKnownRow.holds Try.pinned (OpenSpec.ofChange ruleKnownWrong)

/- THE SECOND FORM. 'bulk': how many values and letters a reading holds, each counted each time it is reached (what is shared counts as often as it is met; a slice's spare places count too). A statement '..UptoSaid' is the law's where the arguments, and the package variables that the reading takes, are together of bulk at most 1048576: NARROWER than '..Said'. Prove '..Said' where nothing that the law and all that it calls make is longer than what came in: it says more and counts as full. Else prove '..UptoSaid'. A law counts once. -/
mutual
def uptoBulk {H : Type} : DataW H → Nat
  | .lit (.string bytes) => bytes.length + 1
  | .lit _ => 1
  | .nil => 1
  | .ptr d => uptoBulk d + 1
  | .slice elems spare => uptoBulkAll elems + uptoBulkAll spare + 1
  | .agg parts => uptoBulkAll parts + 1
  | .iface _ d => uptoBulk d + 1
  | .map entries => uptoBulkEntries entries + 1
  | .held _ => 1
def uptoBulkAll {H : Type} : List (DataW H) → Nat
  | [] => 0
  | d :: r => uptoBulk d + uptoBulkAll r
def uptoBulkEntries {H : Type} : List (Lit × DataW H) → Nat
  | [] => 0
  | x :: r => uptoBulkEntry x + uptoBulkEntries r
def uptoBulkEntry {H : Type} : Lit × DataW H → Nat
  | (.string bytes, d) => bytes.length + uptoBulk d + 1
  | (_, d) => uptoBulk d + 1
 end
def uptoSmall : (H : Type) → List (DataW H) → Bool := fun _ ds => decide (uptoBulkAll ds ≤ 1048576)
def OpenSpec.upto (s : _root_.Go.ChangeSpec) : _root_.Go.OpenSpec := { _root_.Go.OpenSpec.ofChange s with cond := some uptoSmall }

/-- 'stowagelaw01.GfTells', WHERE WHAT IT READS IS OF BULK AT MOST 1048576: true; the input reads as it did. -/
def gfTellsUptoRow : OpenClaim := { program := "ytpogicakpgpkcaa", sum := "a1e51c945fae7d6f435e748839bdd6f54dc753146c9b800f4d020045e472f4e4", func := "stowage/stowagelaw01.GfTells", spec := "gfTells", apart := false, narrowed := true }
def GfTellsUptoSaid : Prop := gfTellsUptoRow.holds Try.pinned (OpenSpec.upto gfTellsSpec)

/-- 'stowagelaw01.GfLists', WHERE WHAT IT READS IS OF BULK AT MOST 1048576: true; the input reads as it did. -/
def gfListsUptoRow : OpenClaim := { program := "ytpogicakpgpkcaa", sum := "a1e51c945fae7d6f435e748839bdd6f54dc753146c9b800f4d020045e472f4e4", func := "stowage/stowagelaw01.GfLists", spec := "gfLists", apart := false, narrowed := true }
def GfListsUptoSaid : Prop := gfListsUptoRow.holds Try.pinned (OpenSpec.upto gfListsSpec)

/-- 'stowagelaw01.GfKnown', WHERE WHAT IT READS IS OF BULK AT MOST 1048576: true; the input reads as it did. -/
def gfKnownUptoRow : OpenClaim := { program := "ytpogicakpgpkcaa", sum := "a1e51c945fae7d6f435e748839bdd6f54dc753146c9b800f4d020045e472f4e4", func := "stowage/stowagelaw01.GfKnown", spec := "gfKnown", apart := false, narrowed := true }
def GfKnownUptoSaid : Prop := gfKnownUptoRow.holds Try.pinned (OpenSpec.upto gfKnownSpec)

/-- 'stowagelaw01.GfField', WHERE WHAT IT READS IS OF BULK AT MOST 1048576: true; the input reads as it did. -/
def gfFieldUptoRow : OpenClaim := { program := "ytpogicakpgpkcaa", sum := "a1e51c945fae7d6f435e748839bdd6f54dc753146c9b800f4d020045e472f4e4", func := "stowage/stowagelaw01.GfField", spec := "gfField", apart := false, narrowed := true }
def GfFieldUptoSaid : Prop := gfFieldUptoRow.holds Try.pinned (OpenSpec.upto gfFieldSpec)

/-- 'stowagelaw01.GfPowers', WHERE WHAT IT READS IS OF BULK AT MOST 1048576: true; the input reads as it did. -/
def gfPowersUptoRow : OpenClaim := { program := "ytpogicakpgpkcaa", sum := "a1e51c945fae7d6f435e748839bdd6f54dc753146c9b800f4d020045e472f4e4", func := "stowage/stowagelaw01.GfPowers", spec := "gfPowers", apart := false, narrowed := true }
def GfPowersUptoSaid : Prop := gfPowersUptoRow.holds Try.pinned (OpenSpec.upto gfPowersSpec)

/-- 'stowagelaw22.RuleMore', WHERE WHAT IT READS IS OF BULK AT MOST 1048576: true; the input reads as it did. -/
def ruleMoreUptoRow : OpenClaim := { program := "ytpogicakpgpkcaa", sum := "a1e51c945fae7d6f435e748839bdd6f54dc753146c9b800f4d020045e472f4e4", func := "stowage/stowagelaw22.RuleMore", spec := "ruleMore", unfollowed := true, recurses := true, apart := false, narrowed := true }
def RuleMoreUptoSaid : Prop := ruleMoreUptoRow.holds Try.pinned (OpenSpec.upto ruleMoreSpec)

/-- 'stowagelaw22.RuleTells', WHERE WHAT IT READS IS OF BULK AT MOST 1048576: true; the input reads as it did. -/
def ruleTellsUptoRow : OpenClaim := { program := "ytpogicakpgpkcaa", sum := "a1e51c945fae7d6f435e748839bdd6f54dc753146c9b800f4d020045e472f4e4", func := "stowage/stowagelaw22.RuleTells", spec := "ruleTells", unfollowed := true, recurses := true, apart := false, narrowed := true }
def RuleTellsUptoSaid : Prop := ruleTellsUptoRow.holds Try.pinned (OpenSpec.upto ruleTellsSpec)

/-- 'stowagelaw22.RuleLasts', WHERE WHAT IT READS IS OF BULK AT MOST 1048576: true; the input reads as it did. -/
def ruleLastsUptoRow : OpenClaim := { program := "ytpogicakpgpkcaa", sum := "a1e51c945fae7d6f435e748839bdd6f54dc753146c9b800f4d020045e472f4e4", func := "stowage/stowagelaw22.RuleLasts", spec := "ruleLasts", unfollowed := true, recurses := true, apart := false, narrowed := true }
def RuleLastsUptoSaid : Prop := ruleLastsUptoRow.holds Try.pinned (OpenSpec.upto ruleLastsSpec)

/-- 'stowagelaw22.RuleKnown', WHERE WHAT IT READS IS OF BULK AT MOST 1048576: true; the input reads as it did. -/
def ruleKnownUptoRow : OpenClaim := { program := "ytpogicakpgpkcaa", sum := "a1e51c945fae7d6f435e748839bdd6f54dc753146c9b800f4d020045e472f4e4", func := "stowage/stowagelaw22.RuleKnown", spec := "ruleKnown", unfollowed := true, recurses := true, apart := false, narrowed := true }
def RuleKnownUptoSaid : Prop := ruleKnownUptoRow.holds Try.pinned (OpenSpec.upto ruleKnownSpec)

end Rows
end Go.Proofs.Ytpogicakpgpkcaa
