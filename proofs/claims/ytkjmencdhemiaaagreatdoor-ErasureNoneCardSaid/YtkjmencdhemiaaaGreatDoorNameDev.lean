/- The walks of which texts may be paths, in the program and in the document: what they give, for every text. No statement of the seat stands here. -/
import Derived.Test.YtkjmencdhemiaaaGreatDoorChecked
import Derived.Tactics
import Derived.Tactics2
import Derived.StillTactics
import Derived.Laws.AppendOwn
import Derived.Laws.Runes
import Derived.Laws.CopyRow
import Derived.Laws.Shifts
import Derived.Laws.Rows
import Derived.Laws.BitsLemmas
import Derived.Laws.Tables
import Derived.Laws.NewBlocks
import Derived.Laws.Unary
import Derived.Laws.Strings
import Derived.Laws.NewFold
import Derived.Laws.ShiftsVarLaws
import Derived.Laws.Bits
import Derived.Laws.Alloc2
import Derived.Laws.Bits128
import Derived.Laws.Strings2
import Derived.Laws.Wrap64
import Derived.Laws.ShiftsVar
import Derived.Laws.Closers25
import Derived.Laws.RangeString
import Derived.Laws.Concat
import Derived.Laws.Cells
import Derived.Laws.NewDeep
import Derived.Laws.Pointers
import Derived.Laws.StructEq
import Derived.Laws.Closers25b
import Derived.Laws.StandIn
import Derived.Laws.Bits64b
import Derived.Laws.LoneSync
import Derived.Laws.ByValue
import Derived.Laws.MathBits
import Derived.Laws.Externs
import Derived.Laws.BitsAll
import Derived.Laws.BitsAllLaws
import Derived.Laws.Bits64
import Derived.Laws.OwnMore
import Derived.Laws.Build
import Derived.Laws.ResultCell
import Derived.Laws.Entries
import Derived.Laws.Append
import Derived.Laws.RangeAny
import Derived.Laws.World
import Derived.Laws.Strings3
import Derived.Laws.Sem
import Derived.Laws.Slices
import Derived.Laws.MakeOwn
import Derived.Laws.Small
import Derived.Laws.BytesString
import Derived.Scope
import Derived.FnLit
import Derived.LoopTactic
import Derived.LoopN
import Derived.Laws.IdiomRangeMap
import Derived.Maps.RangeRun
import Derived.WalkSpells
import Derived.Below
import Derived.WalkKit
import Derived.BigCall
import Derived.Test.YtkjmencdhemiaaaGreatDoorXG
set_option linter.unusedSimpArgs false
set_option linter.unusedVariables false
namespace Go.Proofs.YtkjmencdhemiaaaGreatDoor.NameDev
open Go Go.RowKit Go.Proofs.YtkjmencdhemiaaaGreatDoor.X
def intOf : Value → Int
  | .int _ n => n
  | _ => 0
theorem ink_next (l : List UInt8) (k : Nat) (h : k < l.length) : inkB (l.drop k) = (match Nat.ble 33 (l.getD k 0).toNat && Nat.ble (l.getD k 0).toNat 126 with | true => inkB (l.drop (k + 1)) | false => false) := by
  rw [List.drop_eq_getElem_cons h, List.getD_eq_getElem?_getD, List.getElem?_eq_getElem h]
  rfl
theorem ink_true {n : Nat} (h : 33 ≤ n ∧ n ≤ 126) : (Nat.ble 33 n && Nat.ble n 126) = true := by
  rw [Bool.and_eq_true, Nat.ble_eq, Nat.ble_eq]
  exact h
theorem ink_false {n : Nat} (h : ¬ (33 ≤ n ∧ n ≤ 126)) : (Nat.ble 33 n && Nat.ble n 126) = false := by
  cases hx : (Nat.ble 33 n && Nat.ble n 126) with
  | false => rfl
  | true =>
    rw [Bool.and_eq_true, Nat.ble_eq, Nat.ble_eq] at hx
    exact absurd hx h
theorem name_false {b : ByteArray} (h : inkB (bytesL b) = false) : nameB 512 b = false := by
  simp [nameB, h]
theorem name_true {b : ByteArray} (h : inkB (bytesL b) = true) : (nameB 512 b = true) = (1 ≤ b.size ∧ b.size ≤ 512) := by
  simp [nameB, h, Nat.ble_eq]
set_option maxHeartbeats 4000000 in
set_option maxRecDepth 100000 in
theorem name_calls (b : ByteArray) (hb : b.size ≤ 9000000000000000000) (w : World) : Calls Tryz.prog 55 #[.string b] w fun e w' => e = .returned (.bool (nameB 512 b)) ∧ w' = w := by
  go_enter Tryz.func55, Tryz.ntmps55
  have hl : (bytesL b).length = b.size := rfl
  go_wp2_with fail
  go_loopw [6] (fun v wr => ∃ j : Nat, j ≤ b.size ∧ v = .int .i64 j ∧ Hid (inkB ((bytesL b).drop j) = inkB (bytesL b)) ∧ wr = w) (fun v _ => b.size - (intOf v).toNat)
  case atStart => exact ⟨0, by omega, rfl, rfl, rfl⟩
  case round =>
    obtain ⟨j, hj, rfl, hI, rfl⟩ := hrel
    by_cases hlt : j < b.size
    · have hnext := ink_next (bytesL b) j hlt
      have hc : ((bytesL b).getD j 0) = b[j] := by
        rw [List.getD_eq_getElem?_getD, List.getElem?_eq_getElem (by rw [hl]; exact hlt)]
        rfl
      rw [hc, hI.out] at hnext
      by_cases hink : 33 ≤ b[j].toNat ∧ b[j].toNat ≤ 126
      · rw [ink_true hink] at hnext
        have hnext : Hid _ := hnext
        go_wp2_with fail
        all_goals first
          | (exfalso; omega)
          | exact ⟨⟨j + 1, by omega, by simp, hnext.out.symm, trivial⟩, by simp only [intOf]; omega⟩
      · rw [ink_false hink] at hnext
        have hnext : Hid _ := hnext
        go_wp2_with fail
        all_goals first
          | (exfalso; omega)
          | (go_ret; exact ⟨congrArg (fun x => Ending.returned (Value.bool x)) (name_false hnext.out).symm, rfl⟩)
    · have hjn : j = b.size := by omega
      have hall : inkB (bytesL b) = true := by
        rw [← hI.out, List.drop_of_length_le (by omega)]
        rfl
      have hall : Hid _ := hall
      go_wp2_with fail
      all_goals first
        | (exfalso; omega)
        | (go_ret; refine ⟨congrArg (fun x => Ending.returned (Value.bool x)) (Bool.eq_iff_iff.2 ?_), rfl⟩; rw [name_true hall.out]; first | omega | (simp; omega))
        | trace_state
set_option maxHeartbeats 4000000 in
set_option maxRecDepth 100000 in
theorem ref_calls (b : ByteArray) (hb : b.size ≤ 9000000000000000000) (w : World) : Calls Tryz.prog 56 #[.string b] w fun e w' => e = .returned (.bool (nameB 512 b)) ∧ w' = w := by
  go_enter Tryz.func56, Tryz.ntmps56
  have hl : (bytesL b).length = b.size := rfl
  go_wp2_with fail
  go_loopw [3] (fun v wr => ∃ j : Nat, j ≤ b.size ∧ v = .int .i64 j ∧ Hid (inkB ((bytesL b).drop j) = inkB (bytesL b)) ∧ wr = w) (fun v _ => b.size - (intOf v).toNat)
  case atStart => exact ⟨0, by omega, rfl, rfl, rfl⟩
  case round =>
    obtain ⟨j, hj, rfl, hI, rfl⟩ := hrel
    by_cases hlt : j < b.size
    · have hnext := ink_next (bytesL b) j hlt
      have hc : ((bytesL b).getD j 0) = b[j] := by
        rw [List.getD_eq_getElem?_getD, List.getElem?_eq_getElem (by rw [hl]; exact hlt)]
        rfl
      rw [hc, hI.out] at hnext
      by_cases hink : 33 ≤ b[j].toNat ∧ b[j].toNat ≤ 126
      · rw [ink_true hink] at hnext
        have hnext : Hid _ := hnext
        go_wp2_with fail
        all_goals first
          | (exfalso; omega)
          | exact ⟨⟨j + 1, by omega, by simp, hnext.out.symm, trivial⟩, by simp only [intOf]; omega⟩
      · rw [ink_false hink] at hnext
        have hnext : Hid _ := hnext
        go_wp2_with fail
        all_goals first
          | (exfalso; omega)
          | (go_ret; exact ⟨congrArg (fun x => Ending.returned (Value.bool x)) (name_false hnext.out).symm, rfl⟩)
    · have hjn : j = b.size := by omega
      have hall : inkB (bytesL b) = true := by
        rw [← hI.out, List.drop_of_length_le (by omega)]
        rfl
      have hall : Hid _ := hall
      go_wp2_with fail
      all_goals first
        | (exfalso; omega)
        | (go_ret; refine ⟨congrArg (fun x => Ending.returned (Value.bool x)) (Bool.eq_iff_iff.2 ?_), rfl⟩; rw [name_true hall.out]; first | omega | (simp; omega))
        | trace_state
theorem path_true {b : ByteArray} : (pathB 400 b = true) = (b.size ≤ 400 ∧ nameB 512 b = true) := by
  simp [pathB, Nat.ble_eq]
set_option maxHeartbeats 4000000 in
set_option maxRecDepth 100000 in
theorem path_spec : FlatSpec Tryz.prog 17 (pathOkG 400) := by
  intro args v w hg
  obtain ⟨b, rfl, rfl⟩ := pathOkG_some hg
  show Calls Tryz.prog 17 #[.string b] w _
  go_enter Tryz.func17, Tryz.ntmps17
  go_wp2_with (go_at_call 55; refine (name_calls b (by omega) _).mono ?_; rintro e0 w0 ⟨rfl, rfl⟩)
  all_goals go_ret
  all_goals refine ⟨congrArg (fun x => Ending.returned (Value.bool x)) (Bool.eq_iff_iff.2 ?_), Below.refl _ _⟩
  all_goals rw [path_true]
  all_goals first | omega | (simp; omega) | trace_state
set_option maxHeartbeats 4000000 in
set_option maxRecDepth 100000 in
theorem refPath_spec : FlatSpec Tryz.prog 18 (pathOkG 400) := by
  intro args v w hg
  obtain ⟨b, rfl, rfl⟩ := pathOkG_some hg
  show Calls Tryz.prog 18 #[.string b] w _
  go_enter Tryz.func18, Tryz.ntmps18
  go_wp2_with (go_at_call 56; refine (ref_calls b (by omega) _).mono ?_; rintro e0 w0 ⟨rfl, rfl⟩)
  all_goals go_ret
  all_goals refine ⟨congrArg (fun x => Ending.returned (Value.bool x)) (Bool.eq_iff_iff.2 ?_), Below.refl _ _⟩
  all_goals rw [path_true]
  all_goals first | omega | (simp; omega) | trace_state
end Go.Proofs.YtkjmencdhemiaaaGreatDoor.NameDev
