/- ShelfNames: the walk of the law. Its conditions: the listed table of math/bits. -/
import Derived.Test.YtclljmbgkpfgkaaGreatDoorChecked
import Derived.Laws.IdiomStrings
import Derived.Lib.OthersKept
import Derived.Tactics
import Derived.Tactics2
import Derived.StillTactics
import Derived.Laws.AppendOwn
import Derived.Laws.Runes
import Derived.Laws.CopyRow
import Derived.Laws.Shifts
import Derived.Laws.Rows
import Derived.Laws.BitsLemmas
import Derived.Laws.Tables
import Derived.Laws.NewBlocks
import Derived.Laws.Unary
import Derived.Laws.Strings
import Derived.Laws.NewFold
import Derived.Laws.ShiftsVarLaws
import Derived.Laws.Bits
import Derived.Laws.Alloc2
import Derived.Laws.Bits128
import Derived.Laws.Strings2
import Derived.Laws.Wrap64
import Derived.Laws.ShiftsVar
import Derived.Laws.Closers25
import Derived.Laws.RangeString
import Derived.Laws.Concat
import Derived.Laws.Cells
import Derived.Laws.NewDeep
import Derived.Laws.Pointers
import Derived.Laws.StructEq
import Derived.Laws.Closers25b
import Derived.Laws.StandIn
import Derived.Laws.Bits64b
import Derived.Laws.LoneSync
import Derived.Laws.ByValue
import Derived.Laws.MathBits
import Derived.Laws.Externs
import Derived.Laws.BitsAll
import Derived.Laws.BitsAllLaws
import Derived.Laws.Bits64
import Derived.Laws.OwnMore
import Derived.Laws.Build
import Derived.Laws.ResultCell
import Derived.Laws.Entries
import Derived.Laws.Append
import Derived.Laws.RangeAny
import Derived.Laws.World
import Derived.Laws.Strings3
import Derived.Laws.Sem
import Derived.Laws.Slices
import Derived.Laws.MakeOwn
import Derived.Laws.Small
import Derived.Laws.BytesString
import Derived.Scope
import Derived.FnLit
import Derived.LoopTactic
import Derived.LoopN
import Derived.Lib.Hide
import Derived.Test.YtclljmbgkpfgkaaGreatDoorPthDev
import Derived.Test.YtclljmbgkpfgkaaGreatDoorIdDev
import Derived.Test.YtclljmbgkpfgkaaGreatDoorRefId
set_option linter.unusedSimpArgs false
set_option linter.unusedVariables false
namespace Go.Proofs.YtclljmbgkpfgkaaGreatDoor.Aw
open Go Go.RowKit Go.Proofs.YtclljmbgkpfgkaaGreatDoor.X Go.Proofs.YtclljmbgkpfgkaaGreatDoor.Nm Go.Proofs.YtclljmbgkpfgkaaGreatDoor.RefDev
set_option maxHeartbeats 4000000 in
set_option maxRecDepth 100000 in
theorem names_calls (n : Nat) (hn : n < 18446744073709551616) (b key : ByteArray) (w : World) (hw : KnownW w tabs) : Calls Tryz.prog 3 #[.int .u64 (n : Int), .string b, .string key] w fun e w' => e = .returned (.bool true) ∧ Below w.heap.size w w' := by
  by_cases hb : b.size > 200
  · have hb' : (b.size : Int) > 200 := by omega
    go_enter Tryz.func3, Tryz.ntmps3
    go_wp2_with fail
    all_goals first
      | (go_ret; exact ⟨rfl, Below.refl _ _⟩)
      | (exfalso; omega)
  · by_cases hk : key.size > 200
    · have hk' : (key.size : Int) > 200 := by omega
      go_enter Tryz.func3, Tryz.ntmps3
      go_wp2_with fail
      all_goals first
        | (go_ret; exact ⟨rfl, Below.refl _ _⟩)
        | (exfalso; omega)
    · have hb' : ¬ (b.size : Int) > 200 := by omega
      have hk' : ¬ (key.size : Int) > 200 := by omega
      have hb1000 : b.size ≤ 1000 := by omega
      have hk1000 : key.size ≤ 1000 := by omega
      go_enter Tryz.func3, Tryz.ntmps3
      go_wp2_with fail
      refine (PthDev.shelfPath_calls b key hb1000 hk1000 _).mono ?_
      rintro e w1 ⟨⟨s, hs, rfl⟩, hb1⟩
      have HS := Lib.hid hs
      have HB1 := Lib.hid hb1
      clear hs hb1
      go_wp2_with fail
      refine (PthDev.ref18_calls b key hb1000 hk1000 _).mono ?_
      rintro e w2 ⟨⟨t, ht, rfl⟩, hb2⟩
      obtain rfl : s = t := bytes_inj (HS.out.trans ht.symm)
      have HB2 := Lib.hid (two_below HB1.out hb2)
      clear hb2 ht HB1 HS
      generalize PthDev.pathE b key = pe
      go_wp2_with fail
      refine (put_nil b key (n : Int) _).mono ?_
      rintro e w3 ⟨rfl, hb3⟩
      have HB3 := Lib.hid (two_below HB2.out hb3)
      clear hb3 HB2
      unfold v0
      go_wp2_with fail
      refine (lay_nil b key (n : Int) _).mono ?_
      rintro e w4 ⟨rfl, hb4⟩
      have HB4 := Lib.hid (two_below (HB3.out.alloc HB3.out.size _) hb4)
      clear hb4 HB3
      unfold v0
      go_wp2_with fail
      refine (get_nil b key _).mono ?_
      rintro e w5 ⟨rfl, hb5⟩
      have HB5 := Lib.hid (two_below (HB4.out.alloc HB4.out.size _) hb5)
      clear hb5 HB4
      unfold v0
      go_wp2_with fail
      refine (part_nil b key _).mono ?_
      rintro e w6 ⟨rfl, hb6⟩
      have HB6 := Lib.hid (two_below (HB5.out.alloc HB5.out.size _) hb6)
      clear hb6 HB5
      unfold v0
      go_wp2_with fail
      refine (head_nil b key _).mono ?_
      rintro e w7 ⟨rfl, hb7⟩
      have HB7 := Lib.hid (two_below (HB6.out.alloc HB6.out.size _) hb7)
      clear hb7 HB6
      unfold v0
      go_wp2_with fail
      refine (delete_nil b key (n : Int) _).mono ?_
      rintro e w8 ⟨rfl, hb8⟩
      have HB8 := Lib.hid (two_below (HB7.out.alloc HB7.out.size _) hb8)
      clear hb8 HB7
      unfold v0
      go_wp2_with fail
      refine (entries_nil b _).mono ?_
      rintro e w9 ⟨rfl, hb9⟩
      have HB9 := Lib.hid (two_below (HB8.out.alloc HB8.out.size _) hb9)
      clear hb9 HB8
      go_wp2_with fail
      refine (IdDev.id_calls n hn _ (known_below hw HB9.out)).mono ?_
      rintro e wa ⟨⟨x, hx, rfl⟩, hba⟩
      have HX := Lib.hid hx
      have HBa := Lib.hid (two_below HB9.out hba)
      clear hx hba HB9
      go_wp2_with fail
      refine (RefId.refId_calls n hn _).mono ?_
      rintro e wb ⟨⟨y, hy, rfl⟩, hbb⟩
      obtain rfl : x = y := bytes_inj (HX.out.trans hy.symm)
      have HBb := Lib.hid (two_below HBa.out hbb)
      clear hy hbb HBa HX
      go_wp2_with fail
      refine (known _ (known_below hw HBb.out)).mono ?_
      rintro e wc ⟨rfl, hbc⟩
      have HBc := Lib.hid (two_below HBb.out hbc)
      clear hbc HBb
      go_wp2_with fail
      go_ret
      exact ⟨rfl, HBc.out⟩
end Go.Proofs.YtclljmbgkpfgkaaGreatDoor.Aw
