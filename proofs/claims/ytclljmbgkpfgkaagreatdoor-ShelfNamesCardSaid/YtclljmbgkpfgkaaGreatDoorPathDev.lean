/- The walk of a key's path: what it gives, for every bucket and key. No statement of the seat stands here. -/
import Derived.Test.YtclljmbgkpfgkaaGreatDoorChecked
import Derived.Test.YtclljmbgkpfgkaaGreatDoorDigitsDev
import Derived.Laws.IdiomStrings
import Derived.Lib.OthersKept
import Derived.Tactics
import Derived.Tactics2
import Derived.StillTactics
import Derived.Laws.AppendOwn
import Derived.Laws.Runes
import Derived.Laws.CopyRow
import Derived.Laws.Shifts
import Derived.Laws.Rows
import Derived.Laws.BitsLemmas
import Derived.Laws.Tables
import Derived.Laws.NewBlocks
import Derived.Laws.Unary
import Derived.Laws.Strings
import Derived.Laws.NewFold
import Derived.Laws.ShiftsVarLaws
import Derived.Laws.Bits
import Derived.Laws.Alloc2
import Derived.Laws.Bits128
import Derived.Laws.Strings2
import Derived.Laws.Wrap64
import Derived.Laws.ShiftsVar
import Derived.Laws.Closers25
import Derived.Laws.RangeString
import Derived.Laws.Concat
import Derived.Laws.Cells
import Derived.Laws.NewDeep
import Derived.Laws.Pointers
import Derived.Laws.StructEq
import Derived.Laws.Closers25b
import Derived.Laws.StandIn
import Derived.Laws.Bits64b
import Derived.Laws.LoneSync
import Derived.Laws.ByValue
import Derived.Laws.MathBits
import Derived.Laws.Externs
import Derived.Laws.BitsAll
import Derived.Laws.BitsAllLaws
import Derived.Laws.Bits64
import Derived.Laws.OwnMore
import Derived.Laws.Build
import Derived.Laws.ResultCell
import Derived.Laws.Entries
import Derived.Laws.Append
import Derived.Laws.RangeAny
import Derived.Laws.World
import Derived.Laws.Strings3
import Derived.Laws.Sem
import Derived.Laws.Slices
import Derived.Laws.MakeOwn
import Derived.Laws.Small
import Derived.Laws.BytesString
import Derived.Scope
import Derived.FnLit
import Derived.LoopTactic
import Derived.LoopN
import Derived.Laws.IdiomRangeMap
import Derived.Maps.RangeRun
import Derived.WalkSpells
import Derived.Below
import Derived.WalkKit
import Derived.BigCall
import Derived.Test.YtclljmbgkpfgkaaGreatDoorXG
set_option linter.unusedSimpArgs false
set_option linter.unusedVariables false
namespace Go.Proofs.YtclljmbgkpfgkaaGreatDoor.PathDev
open Go Go.RowKit Go.Proofs.YtclljmbgkpfgkaaGreatDoor.X Go.Proofs.YtclljmbgkpfgkaaGreatDoor.BuilderDev Go.Proofs.YtclljmbgkpfgkaaGreatDoor.DigitsDev
theorem plain_iff (n : Nat) : plainB n = true ↔ (65 ≤ n ∧ n ≤ 90) ∨ (n = 45 ∨ n = 95) ∨ (97 ≤ n ∧ n ≤ 122) ∨ (48 ≤ n ∧ n ≤ 57) := by
  simp only [plainB, Bool.or_eq_true, Bool.and_eq_true, Nat.ble_eq, Nat.beq_eq]
  omega
set_option maxHeartbeats 4000000 in
set_option maxRecDepth 100000 in
theorem plain_calls (n : Nat) (hn : n < 256) (w : World) : Calls Tryz.prog 91 #[.int .u8 (n : Int)] w fun e w' => e = .returned (.bool (plainB n)) ∧ w' = w := by
  go_enter Tryz.func91, Tryz.ntmps91
  go_wp2
  all_goals go_ret
  all_goals refine ⟨?_, rfl⟩
  all_goals refine (congrArg (fun b => Ending.returned (Value.bool b)) (Bool.eq_iff_iff.2 ?_) : Ending.returned (Value.bool _) = Ending.returned (Value.bool (plainB n)))
  all_goals rw [plain_iff]
  all_goals first | omega | (simp; omega) | (simp_all; done) | (simp_all; omega) | trace_state
theorem esc_length : ∀ l : List UInt8, (escL l).length ≤ 3 * l.length
  | [] => Nat.le_refl _
  | c :: l => by
    have ih := esc_length l
    simp only [escL, List.length_cons]
    split <;> simp only [List.length_cons] <;> omega
theorem esc_append : ∀ a b : List UInt8, escL (a ++ b) = escL a ++ escL b
  | [], _ => rfl
  | c :: a, b => by
    simp only [List.cons_append, escL, esc_append a b]
    split <;> rfl
theorem esc_next (l : List UInt8) (j : Nat) (h : j < l.length) : escL (l.take (j + 1)) = escL (l.take j) ++ (match plainB (l.getD j 0).toNat with | true => [l.getD j 0] | false => [37, hexD (Nat.div (l.getD j 0).toNat 16), hexD (Nat.mod (l.getD j 0).toNat 16)]) := by
  rw [List.take_add_one, List.getElem?_eq_getElem h, List.getD_eq_getElem?_getD, List.getElem?_eq_getElem h, esc_append]
  rfl
set_option maxHeartbeats 4000000 in
set_option maxRecDepth 100000 in
theorem path_spec : FlatSpec Tryz.prog 44 pathG := by
  intro args v w hg
  obtain ⟨s, k, rfl, h1, h2, rfl⟩ : ∃ s k : ByteArray, args = [.string s, .string k] ∧ s.size ≤ 1000000 ∧ k.size ≤ 1000000 ∧ v = .string ⟨(bytesL s ++ 47 :: escL (bytesL k)).toArray⟩ := by
    unfold pathG at hg
    split at hg
    · split at hg
      · split at hg
        · split at hg
          · rename_i b _ k _ hc
            simp only [Bool.and_eq_true] at hc
            injection hg with hg
            exact ⟨b, k, rfl, Nat.le_of_ble_eq_true hc.1, Nat.le_of_ble_eq_true hc.2, hg.symm⟩
          · cases hg
        · cases hg
      · cases hg
    · cases hg
  show Calls Tryz.prog 44 #[.string s, .string k] w _
  go_enter Tryz.func44, Tryz.ntmps44
  have hI0 := Lib.IsBuilderF.of (Lib.fresh_isBuilder 104 5 w)
  have sz0 : (w.alloc (.cells #[.pointer none, .slice none 0 0] 104)).heap.size = w.heap.size + 1 := by simp
  go_wp2_with (go_at_call 53; refine (write_string w.heap.size w.heap.size [] s _ hI0 (by simp; omega) (by omega)).mono ?_)
  rintro e W1 ⟨rfl, i1, b1, k1⟩
  have bb1 : Below w.heap.size w W1 := ((Below.refl _ w).alloc (Nat.le_refl _) _).trans b1
  have l1 : ([] ++ Lib.strCells s).length = s.size := by simp [Lib.strCells_length]
  go_wp2_with (go_at_call 90; refine (write_byte w.heap.size w.heap.size _ 47 _ (Or.inr i1) (by omega) bb1.size).mono ?_)
  rintro e W2 ⟨rfl, i2, b2, k2⟩
  have bb2 : Below w.heap.size w W2 := bb1.trans b2
  have i2 : Hid _ := i2
  have bb2 : Hid _ := bb2
  clear hI0 sz0 i1 b1 k1 bb1 b2 k2 l1
  go_wp2_with fail
  rw [run_bytes_of_string W2 9 31 5 k Tryz.underlying9 Tryz.underlying31 Tryz.underlying5]
  simp only [Result.andThen]
  rw [Oper.upon_value]
  generalize grownCap W2 k.size 0 5 = cap
  have hC : ∀ j (h : j < k.size), (bytesRow k cap)[j]? = some (.int .u8 (((bytesL k).getD j 0).toNat : Int)) := by
    intro j h
    have h' : j < k.data.size := h
    simp [bytesRow, Array.getElem?_append, h, h', bytesL, List.getD]
  generalize bytesRow k cap = C at hC
  have hr3 : (W2.drew.alloc (.cells C 5 (C.size, C.size + 1))).heap[W2.heap.size]? = some (.cells C 5 (C.size, C.size + 1)) := heap_alloc_new W2.drew _
  have hI3 : Lib.IsBuilderF 104 5 w.heap.size w.heap.size (Lib.byteCells (bytesL s ++ 47 :: escL ((bytesL k).take 0))) (W2.drew.alloc (.cells C 5 (C.size, C.size + 1))) := by
    have h0 : Lib.IsBuilderF 104 5 w.heap.size w.heap.size (Lib.byteCells (bytesL s ++ 47 :: escL ((bytesL k).take 0))) W2.drew := by
      rw [List.take_zero, Lib.byteCells_append]
      exact Or.inr i2.out
    exact Lib.IsBuilderF.alloc h0 _
  have hB3 : Below w.heap.size w (W2.drew.alloc (.cells C 5 (C.size, C.size + 1))) := (bb2.out.drew).alloc bb2.out.drew.size _
  generalize W2.drew.alloc (.cells C 5 (C.size, C.size + 1)) = W3 at hr3 hI3 hB3
  generalize W2.heap.size = r at hr3
  have hr3 : Hid _ := hr3
  have hI3 : Hid _ := hI3
  have hB3 : Hid _ := hB3
  have hC : Hid _ := hC
  clear i2 bb2
  go_wp2_with fail
  go_loopw [14] (fun v wr => ∃ j : Nat, j ≤ k.size ∧ v = .int .i64 j ∧ Hid (Lib.IsBuilderF 104 5 w.heap.size w.heap.size (Lib.byteCells (bytesL s ++ 47 :: escL ((bytesL k).take j))) wr) ∧ Hid (Below w.heap.size w wr) ∧ Hid (wr.heap[r]? = some (.cells C 5 (C.size, C.size + 1)))) (fun v _ => k.size - (DigitsDev.intOf v).toNat)
  case atStart => exact ⟨0, by omega, rfl, hI3.out, hB3.out, hr3.out⟩
  case round =>
    obtain ⟨j, hj, rfl, hI, hB, hr⟩ := hrel
    by_cases hlt : j < k.size
    · have hlen : (bytesL s ++ 47 :: escL ((bytesL k).take j)).length ≤ 5000000 := by
        have e1 := esc_length ((bytesL k).take j)
        have e2 : (bytesL s).length = s.size := rfl
        have e3 : ((bytesL k).take j).length ≤ k.size := by
          rw [List.length_take]
          exact Nat.min_le_right _ _
        simp only [List.length_append, List.length_cons]
        omega
      have hlen : Hid _ := hlen
      have hnext := esc_next (bytesL k) j hlt
      have c0 : wr.cell? ⟨r, j, none⟩ = some (.int .u8 (((bytesL k).getD j 0).toNat : Int)) := by
        simp only [World.cell?, hr.out]
        exact hC.out j hlt
      generalize (bytesL k).getD j 0 = c at hnext c0
      have hm : c.toNat < 256 := c.toNat_lt
      have hnext : Hid _ := hnext
      have hsz := hB.out.size
      have pc := fun w => plain_calls c.toNat hm w
      cases hp : plainB c.toNat with
      | true =>
        rw [hp] at pc
        go_wp2_with (first | (go_at_call 91; refine (pc _).mono ?_; rintro e0 w0 ⟨rfl, rfl⟩) | (go_at_call 90; refine (write_byte w.heap.size w.heap.size _ _ _ hI.out (by rw [Lib.byteCells_length]; have := hlen.out; omega) hsz).mono ?_))
        rintro e W4 ⟨rfl, i4, b4, k4⟩
        have i4 : Hid _ := i4
        have b4 : Hid _ := b4
        have k4 : Hid _ := k4
        go_wp2_with fail
        refine ⟨⟨j + 1, by omega, by simp, ?_, hB.out.trans b4.out, k4.out _ _ hr.out⟩, ?_⟩
        · have e := hnext.out
          simp only [hp] at e
          rw [e, show bytesL s ++ 47 :: (escL ((bytesL k).take j) ++ [c]) = (bytesL s ++ 47 :: escL ((bytesL k).take j)) ++ [c] by simp, Lib.byteCells_append]
          exact Or.inr i4.out
        · simp only [DigitsDev.intOf]; omega
      | false =>
        rw [hp] at pc
        have f1 := run_shr8 Tryz.prog c.toNat
        have f2 := and_15 c.toNat hm
        go_wp2_with (first | (go_at_call 91; refine (pc _).mono ?_; rintro e0 w0 ⟨rfl, rfl⟩) | (go_at_call 90; refine (write_byte w.heap.size w.heap.size _ _ _ hI.out (by rw [Lib.byteCells_length]; have := hlen.out; omega) hsz).mono ?_))
        rintro e W4 ⟨rfl, i4, b4, k4⟩
        have i4 : Hid _ := i4
        have b4 : Hid _ := b4
        have k4 : Hid _ := k4
        have hsz4 := (hB.out.trans b4.out).size
        go_wp2_with (go_at_call 90; refine (write_byte w.heap.size w.heap.size _ _ _ (Or.inr i4.out) (by rw [List.length_append, Lib.byteCells_length]; have := hlen.out; simp only [List.length_cons, List.length_nil]; omega) hsz4).mono ?_)
        rintro e W5 ⟨rfl, i5, b5, k5⟩
        rw [hex_at] at i5
        have i5 : Hid _ := i5
        have b5 : Hid _ := b5
        have k5 : Hid _ := k5
        have hsz5 := ((hB.out.trans b4.out).trans b5.out).size
        go_wp2_with (go_at_call 90; refine (write_byte w.heap.size w.heap.size _ _ _ (Or.inr i5.out) (by rw [List.length_append, List.length_append, Lib.byteCells_length]; have := hlen.out; simp only [List.length_cons, List.length_nil]; omega) hsz5).mono ?_)
        rintro e W6 ⟨rfl, i6, b6, k6⟩
        rw [hex_at] at i6
        have i6 : Hid _ := i6
        have b6 : Hid _ := b6
        have k6 : Hid _ := k6
        go_wp2_with fail
        refine ⟨⟨j + 1, by omega, by simp, ?_, ((hB.out.trans b4.out).trans b5.out).trans b6.out, k6.out _ _ (k5.out _ _ (k4.out _ _ hr.out))⟩, ?_⟩
        · have e := hnext.out
          simp only [hp] at e
          rw [e, show bytesL s ++ 47 :: (escL ((bytesL k).take j) ++ [37, hexD (Nat.div c.toNat 16), hexD (Nat.mod c.toNat 16)]) = (bytesL s ++ 47 :: escL ((bytesL k).take j)) ++ [37] ++ [hexD (Nat.div c.toNat 16)] ++ [hexD (Nat.mod c.toNat 16)] by simp, Lib.byteCells_append, Lib.byteCells_append, Lib.byteCells_append]
          exact Or.inr i6.out
        · simp only [DigitsDev.intOf]; omega
    · have hjn : j = k.size := by omega
      have hall : (bytesL k).take j = bytesL k := List.take_of_length_le (by have : (bytesL k).length = k.size := rfl; omega)
      rw [hall] at hI
      go_wp2_with (go_at_call 55; refine (string_of w.heap.size w.heap.size _ _ hI.out (by simp)).mono ?_)
      rintro e W4 ⟨rfl, b4⟩
      have b4 : Hid _ := b4
      go_wp2_with fail
      go_ret
      exact ⟨rfl, hB.out.trans b4.out⟩
end Go.Proofs.YtclljmbgkpfgkaaGreatDoor.PathDev
