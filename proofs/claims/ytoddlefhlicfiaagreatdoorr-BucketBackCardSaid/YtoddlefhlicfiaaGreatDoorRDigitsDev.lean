/- The walk of the digest's digits: what it gives, for every row of bytes. No statement of the seat stands here. -/
import Derived.Test.YtoddlefhlicfiaaGreatDoorRChecked
import Derived.Test.YtoddlefhlicfiaaGreatDoorRBuilderDev
import Derived.Tactics
import Derived.Tactics2
import Derived.StillTactics
import Derived.Laws.AppendOwn
import Derived.Laws.Runes
import Derived.Laws.CopyRow
import Derived.Laws.Shifts
import Derived.Laws.Rows
import Derived.Laws.BitsLemmas
import Derived.Laws.Tables
import Derived.Laws.NewBlocks
import Derived.Laws.Unary
import Derived.Laws.Strings
import Derived.Laws.NewFold
import Derived.Laws.ShiftsVarLaws
import Derived.Laws.Bits
import Derived.Laws.Alloc2
import Derived.Laws.Bits128
import Derived.Laws.Strings2
import Derived.Laws.Wrap64
import Derived.Laws.ShiftsVar
import Derived.Laws.Closers25
import Derived.Laws.RangeString
import Derived.Laws.Concat
import Derived.Laws.Cells
import Derived.Laws.NewDeep
import Derived.Laws.Pointers
import Derived.Laws.StructEq
import Derived.Laws.Closers25b
import Derived.Laws.StandIn
import Derived.Laws.Bits64b
import Derived.Laws.LoneSync
import Derived.Laws.ByValue
import Derived.Laws.MathBits
import Derived.Laws.Externs
import Derived.Laws.BitsAll
import Derived.Laws.BitsAllLaws
import Derived.Laws.Bits64
import Derived.Laws.OwnMore
import Derived.Laws.Build
import Derived.Laws.ResultCell
import Derived.Laws.Entries
import Derived.Laws.Append
import Derived.Laws.RangeAny
import Derived.Laws.World
import Derived.Laws.Strings3
import Derived.Laws.Sem
import Derived.Laws.Slices
import Derived.Laws.MakeOwn
import Derived.Laws.Small
import Derived.Laws.BytesString
import Derived.Scope
import Derived.FnLit
import Derived.LoopTactic
import Derived.LoopN
import Derived.Laws.IdiomRangeMap
import Derived.Maps.RangeRun
import Derived.WalkSpells
import Derived.Below
import Derived.WalkKit
import Derived.BigCall
import Derived.Test.YtoddlefhlicfiaaGreatDoorRXG
set_option linter.unusedSimpArgs false
set_option linter.unusedVariables false
namespace Go.Proofs.YtoddlefhlicfiaaGreatDoorR.DigitsDev
open Go Go.RowKit Go.Proofs.YtoddlefhlicfiaaGreatDoorR.X
theorem hex_at (d : Nat) (h : d < ByteArray.size ⟨#[48, 49, 50, 51, 52, 53, 54, 55, 56, 57, 97, 98, 99, 100, 101, 102]⟩) : (⟨#[48, 49, 50, 51, 52, 53, 54, 55, 56, 57, 97, 98, 99, 100, 101, 102]⟩ : ByteArray)[d] = hexD d := by
  have h : d < 16 := h
  match d, h with
  | 0, _ => rfl
  | 1, _ => rfl
  | 2, _ => rfl
  | 3, _ => rfl
  | 4, _ => rfl
  | 5, _ => rfl
  | 6, _ => rfl
  | 7, _ => rfl
  | 8, _ => rfl
  | 9, _ => rfl
  | 10, _ => rfl
  | 11, _ => rfl
  | 12, _ => rfl
  | 13, _ => rfl
  | 14, _ => rfl
  | 15, _ => rfl
  | e + 16, h => omega
theorem run_shr8 (P : Program) (m : Nat) (w : World) : (Op.shift .shr .u8 (m : Int) .u64 4).run P w = .ok (.int .u8 ((m / 16 : Nat) : Int)) w := by
  have h0 : ¬ ((4 : Int) < 0) := by omega
  have hmin : min ((4 : Int)).toNat IntKind.u8.bits = 4 := by decide
  have e : Int.fdiv (m : Int) (2 ^ 4) = ((m / 16 : Nat) : Int) := by
    rw [show (2 : Int) ^ 4 = ((16 : Nat) : Int) from rfl, Int.fdiv_eq_ediv_of_nonneg _ (Int.natCast_nonneg _)]
    rfl
  simp only [Op.shift, if_neg h0, hmin, e]
  rfl
theorem and_15 (m : Nat) (hm : m < 256) : bits .and .u8 (m : Int) 15 = ((m % 16 : Nat) : Int) := by
  rw [show (15 : Int) = ((15 : Nat) : Int) from rfl, (bits_lim .u8 m 15 (by simp only [limK]; omega) (by simp only [limK]; omega)).1]
  have e2 : Nat.land m 15 = m % 2 ^ 4 := Nat.and_two_pow_sub_one_eq_mod _ 4
  rw [e2]
theorem hexL_append : ∀ (a b : List Nat), hexL (a ++ b) = hexL a ++ hexL b
  | [], _ => rfl
  | _ :: a, b => by simp only [List.cons_append, hexL, hexL_append a b]
theorem hexL_length : ∀ (a : List Nat), (hexL a).length = 2 * a.length
  | [] => rfl
  | _ :: a => by simp only [hexL, List.length_cons, hexL_length a]; omega
theorem take_next (bs : List (BitVec 8)) (k : Nat) (h : k < bs.length) : hexL ((bs.take (k + 1)).map (·.toNat)) = hexL ((bs.take k).map (·.toNat)) ++ [hexD ((bs.getD k 0).toNat / 16)] ++ [hexD ((bs.getD k 0).toNat % 16)] := by
  rw [List.take_add_one, List.getElem?_eq_getElem h, List.getD_eq_getElem?_getD, List.getElem?_eq_getElem h]
  simp only [List.map_append, hexL_append, List.append_assoc]
  rfl
def intOf : Value → Int
  | .int _ n => n
  | _ => 0
set_option maxHeartbeats 4000000 in
set_option maxRecDepth 100000 in
theorem digits_spec : DigitsSpec Tryz.prog 101 := by
  intro bs b o n c w hb h1 hn hcell
  have HC : Hid _ := hcell
  clear hcell
  go_enter Tryz.func101, Tryz.ntmps101
  go_wp2_with fail
  go_loopw [8] (fun v wr => ∃ k : Nat, k ≤ n ∧ v = .int .i64 k ∧ Hid (Lib.IsBuilderF 263 5 w.heap.size w.heap.size (Lib.byteCells (hexL ((bs.take k).map (·.toNat)))) wr) ∧ Hid (Below w.heap.size w wr)) (fun v _ => n - (intOf v).toNat)
  case atStart =>
    refine ⟨0, by omega, rfl, ?_, ?_⟩
    · exact Lib.IsBuilderF.of (Lib.fresh_isBuilder 263 5 w)
    · exact (Below.refl _ w).alloc (Nat.le_refl _) _
  case round =>
    obtain ⟨k, hk, rfl, hI, hB⟩ := hrel
    by_cases hlt : k < n
    · have hbk : b < w.heap.size := World.block_lt_of_cell? w _ (HC.out 0 (by omega))
      have hnext := take_next bs k (by omega)
      have c0 : wr.cell? ⟨b, o + k, none⟩ = some (.int .u8 ((bs.getD k 0).toNat : Int)) := (hB.out.cell hbk).trans (HC.out k hlt)
      have hm : (bs.getD k 0).toNat < 256 := (bs.getD k 0).isLt
      generalize (bs.getD k 0).toNat = m at hnext c0 hm
      have hnext : Hid _ := hnext
      have f1 := run_shr8 Tryz.prog m
      have f2 := and_15 m hm
      have hlen : (hexL ((bs.take k).map (·.toNat))).length = 2 * k := by rw [hexL_length, List.length_map, List.length_take]; omega
      have hlen : Hid _ := hlen
      have hsz := hB.out.size
      go_wp2_with (go_at_call 150; refine (BuilderDev.write_byte w.heap.size w.heap.size _ _ _ hI.out (by rw [Lib.byteCells_length, hlen.out]; omega) hsz).mono ?_)
      · rintro e W1 ⟨rfl, i1, b1, -⟩
        rw [hex_at] at i1
        have i1 : Hid _ := i1
        have b1 : Hid _ := b1
        have hsz1 := (hB.out.trans b1.out).size
        go_wp2_with (go_at_call 150; refine (BuilderDev.write_byte w.heap.size w.heap.size _ _ _ (Or.inr i1.out) (by rw [List.length_append, Lib.byteCells_length, hlen.out]; simp only [List.length_cons, List.length_nil]; omega) hsz1).mono ?_)
        · rintro e W2 ⟨rfl, i2, b2, -⟩
          rw [hex_at] at i2
          have i2 : Hid _ := i2
          have b2 : Hid _ := b2
          go_wp2_with fail
          refine ⟨⟨k + 1, by omega, by simp, ?_, (hB.out.trans b1.out).trans b2.out⟩, ?_⟩
          · rw [hnext.out, Lib.byteCells_append, Lib.byteCells_append]
            exact Or.inr i2.out
          · simp only [intOf]; omega
    · have hkn : k = n := by omega
      subst hkn
      have hall : bs.take k = bs := List.take_of_length_le (by omega)
      rw [hall] at hI
      have hne : hexL (bs.map (·.toNat)) ≠ [] := by
        intro e
        have := congrArg List.length e
        rw [hexL_length, List.length_map, List.length_nil] at this
        omega
      go_wp2_with (go_at_call 151; refine (BuilderDev.string_of w.heap.size w.heap.size _ _ hI.out hne).mono ?_)
      rintro e W1 ⟨rfl, b1⟩
      have b1 : Hid _ := b1
      go_wp2_with fail
      go_ret
      exact ⟨rfl, hB.out.trans b1.out⟩
end Go.Proofs.YtoddlefhlicfiaaGreatDoorR.DigitsDev
