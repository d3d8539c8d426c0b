/- A number's sixteen digits, as the program tells them. No statement of the seat stands here. -/
import Derived.Test.YtclljmbgkpfgkaaGreatDoorChecked
import Derived.Laws.IdiomStrings
import Derived.Lib.OthersKept
import Derived.Tactics
import Derived.Tactics2
import Derived.StillTactics
import Derived.Laws.AppendOwn
import Derived.Laws.Runes
import Derived.Laws.CopyRow
import Derived.Laws.Shifts
import Derived.Laws.Rows
import Derived.Laws.BitsLemmas
import Derived.Laws.Tables
import Derived.Laws.NewBlocks
import Derived.Laws.Unary
import Derived.Laws.Strings
import Derived.Laws.NewFold
import Derived.Laws.ShiftsVarLaws
import Derived.Laws.Bits
import Derived.Laws.Alloc2
import Derived.Laws.Bits128
import Derived.Laws.Strings2
import Derived.Laws.Wrap64
import Derived.Laws.ShiftsVar
import Derived.Laws.Closers25
import Derived.Laws.RangeString
import Derived.Laws.Concat
import Derived.Laws.Cells
import Derived.Laws.NewDeep
import Derived.Laws.Pointers
import Derived.Laws.StructEq
import Derived.Laws.Closers25b
import Derived.Laws.StandIn
import Derived.Laws.Bits64b
import Derived.Laws.LoneSync
import Derived.Laws.ByValue
import Derived.Laws.MathBits
import Derived.Laws.Externs
import Derived.Laws.BitsAll
import Derived.Laws.BitsAllLaws
import Derived.Laws.Bits64
import Derived.Laws.OwnMore
import Derived.Laws.Build
import Derived.Laws.ResultCell
import Derived.Laws.Entries
import Derived.Laws.Append
import Derived.Laws.RangeAny
import Derived.Laws.World
import Derived.Laws.Strings3
import Derived.Laws.Sem
import Derived.Laws.Slices
import Derived.Laws.MakeOwn
import Derived.Laws.Small
import Derived.Laws.BytesString
import Derived.Scope
import Derived.FnLit
import Derived.LoopTactic
import Derived.LoopN
import Derived.Lib.Hide
import Derived.Test.YtclljmbgkpfgkaaGreatDoorRefDev
import Derived.Test.YtclljmbgkpfgkaaGreatDoorRunDev
import Derived.Test.YtclljmbgkpfgkaaGreatDoorWWords
set_option linter.unusedSimpArgs false
set_option linter.unusedVariables false
namespace Go.Proofs.YtclljmbgkpfgkaaGreatDoor.IdDev
open Go Go.RowKit Go.Proofs.YtclljmbgkpfgkaaGreatDoor.X Go.Proofs.YtclljmbgkpfgkaaGreatDoor.Nm Go.Proofs.YtclljmbgkpfgkaaGreatDoor.RefDev
set_option maxHeartbeats 1000000 in
set_option maxRecDepth 100000 in
theorem pow_calls (w : World) : Calls Tryz.prog 196 #[.int .i64 16] w fun e w' => e = .returned (.bool true) ∧ Below w.heap.size w w' :=
  Aw.run_plain (n := Aw.fuel) (args := [.int .i64 16]) (by kernel_rfl) (by kernel_rfl) (by kernel_rfl) w
def digS : ByteArray := ⟨#[48, 49, 50, 51, 52, 53, 54, 55, 56, 57, 97, 98, 99, 100, 101, 102, 103, 104, 105, 106, 107, 108, 109, 110, 111, 112, 113, 114, 115, 116, 117, 118, 119, 120, 121, 122]⟩
theorem dig_at (d : Nat) (h : d < 16) (h' : d < digS.size) : ((digS[d]'h').toNat : Int) = ((hexD d).toNat : Int) := by
  match d, h with
  | 0, _ => rfl
  | 1, _ => rfl
  | 2, _ => rfl
  | 3, _ => rfl
  | 4, _ => rfl
  | 5, _ => rfl
  | 6, _ => rfl
  | 7, _ => rfl
  | 8, _ => rfl
  | 9, _ => rfl
  | 10, _ => rfl
  | 11, _ => rfl
  | 12, _ => rfl
  | 13, _ => rfl
  | 14, _ => rfl
  | 15, _ => rfl
  | n + 16, h => exact absurd h (by omega)
theorem dig_nat (d : Nat) (h : d < 16) : ∀ h' : d < digS.size, (digS[d]'h').toNat = (hexD d).toNat := fun h' => by have := dig_at d h h'; omega
def intsA (l : List UInt8) : List Value := l.map fun c => Value.int .u8 (c.toNat : Int)
/-- the row of digits that stands already -/
def Row (W : World) (g t k : Nat) (acc : List UInt8) : Prop := acc.length = k ∧ ∃ Q : List Value, Q.length = 65 - k ∧ W.heap[g]? = some (.cells (Q ++ intsA acc).toArray t)
theorem Row.cell {W : World} {g t k : Nat} {acc : List UInt8} (h : Row W g t k acc) (hk : k ≤ 64) : ∃ z, W.cell? ⟨g, 64 - k, none⟩ = some z ∧ W.frozen? ⟨g, 64 - k, none⟩ = false := by
  obtain ⟨_, Q, hQ, hh⟩ := h
  have hlt : 64 - k < Q.length := by omega
  refine ⟨Q[64 - k], ?_, by simp [World.frozen?, hh]⟩
  simp only [World.cell?, hh]
  simp [List.getElem?_append_left hlt, hlt]
theorem Row.set {W : World} {g t k : Nat} {acc : List UInt8} (h : Row W g t k acc) (hk : k ≤ 64) (c : UInt8) : Row (W.setCell ⟨g, 64 - k, none⟩ (.int .u8 ((c.toNat : Nat) : Int))) g t (k + 1) (c :: acc) := by
  obtain ⟨ha, Q, hQ, hh⟩ := h
  refine ⟨by simp [ha], Q.take (64 - k), by rw [List.length_take]; omega, ?_⟩
  rw [Go.Proofs.YtclljmbgkpfgkaaGreatDoorW.PrintWords.blk_set hh (64 - k) (.int .u8 ((c.toNat : Nat) : Int))]
  congr 2
  have hlt : 64 - k < Q.length := by omega
  apply Array.toList_inj.1
  rw [Array.toList_setIfInBounds]
  show (Q ++ intsA acc).set (64 - k) _ = Q.take (64 - k) ++ (Value.int .u8 ((c.toNat : Nat) : Int) :: intsA acc)
  rw [List.set_append_left _ _ hlt, List.set_eq_take_append_cons_drop, if_pos hlt, List.drop_of_length_le (by omega)]
  simp
theorem Row.string {W : World} {g t k : Nat} {acc : List UInt8} (h : Row W g t k acc) (hk : k ≤ 65) (P : Program) (src dst e : TypeId) (hs : P.underlying src = some (.slice e)) (he : P.underlying e = some (.int .u8)) (hd : P.underlying dst = some .string) :
    (convert src dst (.slice (some ⟨g, 65 - k, none⟩) k k)).run P W = .ok (.string (strOfNums (acc.map fun c => ((c.toNat : Nat) : Int)))) W := by
  obtain ⟨ha, Q, hQ, hh⟩ := h
  refine run_convert_bytes_arg W src e hs he g (65 - k) k k _ (by simp [ha]) (fun i hi => ?_) dst hd
  simp only [World.cell?, hh]
  have h1 : ¬ 65 - k + i < Q.length := by omega
  rw [List.getElem?_toArray, List.getElem?_append_right (by omega), hQ, show 65 - k + i - (65 - k) = i by omega]
  simp [intsA, List.getD, show i < acc.length by omega]
theorem str_bytes (l : List UInt8) : bytesL (strOfNums (l.map fun c => ((c.toNat : Nat) : Int))) = l := by
  show (strOfNums (l.map fun c => ((c.toNat : Nat) : Int))).data.toList = l
  rw [strOfNums_data, List.map_map]
  conv => rhs; rw [← List.map_id l]
  refine List.map_congr_left (fun c _ => ?_)
  simp
theorem fmt_len : ∀ (f u : Nat) (acc : List UInt8), (fmtL f u acc).length ≤ f + 1 + acc.length
  | 0, u, acc => by simp [fmtL]; omega
  | f + 1, u, acc => by
    rw [fmtL]
    split
    · simp; omega
    · have := fmt_len f (u / 16) (hexD (u % 16) :: acc)
      simp at this
      omega
theorem fmt_pos : ∀ (f u : Nat) (acc : List UInt8), 1 ≤ (fmtL f u acc).length
  | 0, u, acc => by simp [fmtL]
  | f + 1, u, acc => by
    rw [fmtL]
    split
    · simp
    · exact fmt_pos f _ _
set_option maxHeartbeats 4000000 in
set_option maxRecDepth 100000 in
theorem bits_calls (n : Nat) (hn : n < 18446744073709551616) (w : World) (hw : KnownW w Aw.tabs) : Calls Tryz.prog 145 #[.slice none 0 0, .int .u64 (n : Int), .int .i64 16, .bool false, .bool false] w fun e w' => (∃ s : ByteArray, bytesL s = fmtL 15 n [] ∧ e = .returned (.tuple #[.slice none 0 0, .string s])) ∧ Below w.heap.size w w' := by
  go_enter Tryz.func145, Tryz.ntmps145
  go_wp2_with fail
  refine (pow_calls _).mono ?_
  rintro e w1 ⟨rfl, hb1⟩
  have hB1 : Below w.heap.size w w1 := ((Below.refl _ w).alloc (Nat.le_refl _) _).trans (hb1.mono (by simp))
  have hz : Tryz.zeroCells279.size = 65 := by kernel_rfl
  have hrow : Row w1 w.heap.size 279 0 [] := ⟨rfl, Tryz.zeroCells279.toList, (by simp [hz]), by
    rw [show (Tryz.zeroCells279.toList ++ intsA []).toArray = Tryz.zeroCells279 by simp [intsA]]
    exact (hb1.block _ (by simp)).trans (heap_alloc_new w _)⟩
  have HR1 := Lib.hid hrow
  have HB1 := Lib.hid hB1
  clear hb1 hB1 hrow hz
  go_wp2_with fail
  refine (Aw.zeros_last _ (Aw.known_below hw HB1.out)).mono ?_
  rintro e w2 ⟨rfl, hb2⟩
  have HR2 : Hid (Row w2 w.heap.size 279 0 []) := Lib.hid (by
    obtain ⟨h1, Q, h2, h3⟩ := HR1.out
    exact ⟨h1, Q, h2, (hb2.block _ (Array.getElem?_eq_some_iff.1 h3).1).trans h3⟩)
  have HB2 := Lib.hid (two_below HB1.out hb2)
  clear hb2 HR1 HB1
  go_wp2_with fail
  go_loopw [1, 13] (fun v1 v13 wr => ∃ (k u : Nat) (acc : List UInt8), k ≤ 15 ∧ v1 = .int .u64 (u : Int) ∧ v13 = .int .i64 ((65 - k : Nat) : Int) ∧ Hid (u < 16 ^ (16 - k)) ∧ Hid (fmtL (15 - k) u acc = fmtL 15 n []) ∧ Hid (Row wr w.heap.size 279 k acc) ∧ Hid (Below w.heap.size w wr)) (fun v1 _ _ => (DigitsDev.intOf v1).toNat)
  case atStart => exact ⟨0, n, [], by omega, rfl, rfl, Lib.hid (by simpa using hn), Lib.hid rfl, HR2, HB2⟩
  case round =>
    obtain ⟨k, u, acc, hk, rfl, rfl, hu, hf, hrow, hbel⟩ := hrel
    obtain ⟨ha, Q, hQ, hh⟩ := hrow.out
    have hu64 : u < 18446744073709551616 := Nat.lt_of_lt_of_le hu.out (Nat.le_trans (Nat.pow_le_pow_right (by omega) (show 16 - k ≤ 16 by omega)) (by decide))
    by_cases h16 : u < 16
    · have hi : ((65 - k : Nat) : Int) - 1 = ((64 - k : Nat) : Int) := by omega
      obtain ⟨z, z1, z2⟩ := hrow.out.cell (by omega)
      have hdig : ∀ h, ((⟨#[48, 49, 50, 51, 52, 53, 54, 55, 56, 57, 97, 98, 99, 100, 101, 102, 103, 104, 105, 106, 107, 108, 109, 110, 111, 112, 113, 114, 115, 116, 117, 118, 119, 120, 121, 122]⟩ : ByteArray)[u]'h).toNat = (hexD u).toNat := dig_nat u h16
      have hR := hrow.out.set (by omega) (hexD u)
      have hcv := hR.string (by omega) Tryz.prog 31 9 5 Tryz.underlying31 Tryz.underlying5 Tryz.underlying9
      rw [show 65 - (k + 1) = 64 - k by omega] at hcv
      have hsl : ∀ W, (Instr.sliceAt 279 (.pointer (some ⟨w.heap.size, 0, none⟩)) (some (.int .i64 ((64 - k : Nat) : Int))) none none).run Tryz.prog W = .ok (.slice (some ⟨w.heap.size, 64 - k, none⟩) (k + 1) (k + 1)) W := by
        intro W
        have hal : Tryz.prog.arrayLen 279 = 65 := by kernel_rfl
        have hae : Tryz.prog.elem 279 = 5 := by kernel_rfl
        have ht : Tryz.prog.underlying 279 = some (.array (Tryz.prog.arrayLen 279) (Tryz.prog.elem 279)) := by kernel_rfl
        have hinf : (Tryz.prog.info? 5).map (fun i => i.size) = some 1 := by kernel_rfl
        obtain ⟨i0, hi0, hi1⟩ := Option.map_eq_some_iff.1 hinf
        have hsz : (sizeOf 5).run Tryz.prog W = .ok 1 W := by simp [sizeOf, typeInfo, hi0, hi1]
        rw [run_sliceAt_array_l W 279 ⟨w.heap.size, 0, none⟩ ht .i64 ((64 - k : Nat) : Int) (by omega) (by rw [hal]; omega), hal, hae, hsz]
        simp only [Result.andThen, slicedAt, Int.toNat_natCast]
        rw [if_neg (by omega)]
        have e1 : 65 - (64 - k) = k + 1 := by omega
        have e2 : (⟨w.heap.size, 0, none⟩ : Addr).add ((64 - k) * 1) = ⟨w.heap.size, 64 - k, none⟩ := by
          unfold Addr.add
          rw [if_neg (by omega)]
          simp
        rw [e1, e2]
      have hfm := hf.out
      have e15 : fmtL (15 - k) u acc = hexD u :: acc := by cases 15 - k <;> simp [fmtL, h16]
      rw [e15] at hfm
      have HFM := Lib.hid hfm
      have hb := hbel.out
      have hbW : Below w.heap.size w (wr.setCell ⟨w.heap.size, 64 - k, none⟩ (.int .u8 ((hexD u).toNat : Int))) := hb.setCell (Nat.le_refl _) _
      have HBW := Lib.hid hbW
      clear hfm e15 hb hbW hR hf hrow hh
      go_wp2_with fail
      go_ret2
      refine ⟨⟨_, ?_, rfl⟩, HBW.out⟩
      show bytesL (strOfNums ((hexD u :: acc).map fun c => ((c.toNat : Nat) : Int))) = _
      rw [str_bytes]
      exact HFM.out
    · obtain ⟨z, z1, z2⟩ := hrow.out.cell (by omega)
      have hk15 : k ≤ 14 := by
        apply Classical.byContradiction
        intro hn15
        have h1 := hu.out
        rw [show 16 - k = 1 by omega] at h1
        omega
      have hi : ((65 - k : Nat) : Int) - 1 = ((64 - k : Nat) : Int) := by omega
      have hand : bits .and .u64 (u : Int) 15 = ((u % 16 : Nat) : Int) := by
        rw [show (15 : Int) = ((15 : Nat) : Int) from rfl, (bits_lim .u64 u 15 (by simp only [limK]; omega) (by simp only [limK]; omega)).1]
        have e2 : Nat.land u 15 = u % 2 ^ 4 := Nat.and_two_pow_sub_one_eq_mod _ 4
        rw [e2]
      have hm16 : u % 16 < 16 := Nat.mod_lt _ (by omega)
      generalize hmm : u % 16 = m at hand hm16
      have hdig : ∀ h, ((⟨#[48, 49, 50, 51, 52, 53, 54, 55, 56, 57, 97, 98, 99, 100, 101, 102, 103, 104, 105, 106, 107, 108, 109, 110, 111, 112, 113, 114, 115, 116, 117, 118, 119, 120, 121, 122]⟩ : ByteArray)[m]'h).toNat = (hexD m).toNat := dig_nat m hm16
      have hR := Lib.hid (hrow.out.set (by omega) (hexD m))
      have hshr : ∀ W, (Op.shift .shr .u64 (u : Int) .u64 4).run Tryz.prog W = .ok (.int .u64 ((u / 16 : Nat) : Int)) W := by
        intro W
        have h0 : ¬ ((4 : Int) < 0) := by omega
        have hmin : min ((4 : Int)).toNat IntKind.u64.bits = 4 := by decide
        have e : Int.fdiv (u : Int) (2 ^ 4) = ((u / 16 : Nat) : Int) := by
          rw [show (2 : Int) ^ 4 = ((16 : Nat) : Int) from rfl, Int.fdiv_eq_ediv_of_nonneg _ (Int.natCast_nonneg _)]
          rfl
        simp only [Op.shift, if_neg h0, hmin, e]
        rfl
      go_wp2_with fail
      case roundEnd =>
        refine ⟨⟨k + 1, u / 16, hexD m :: acc, by omega, by first | rfl | simp, by rw [show 65 - (k + 1) = 64 - k by omega], Lib.hid ?_, Lib.hid ?_, hR, Lib.hid (hbel.out.setCell (Nat.le_refl _) _)⟩, by simp [DigitsDev.intOf]; omega⟩
        · have h1 := hu.out
          rw [show 16 - k = (16 - (k + 1)) + 1 by omega, Nat.pow_succ] at h1
          omega
        · have h1 := hf.out
          rw [show 15 - k = (15 - (k + 1)) + 1 by omega, fmtL, if_neg h16, hmm] at h1
          exact h1
set_option maxHeartbeats 4000000 in
set_option maxRecDepth 100000 in
theorem inner_calls (n : Nat) (hn : n < 18446744073709551616) (w : World) (hw : KnownW w Aw.tabs) : Calls Tryz.prog 85 #[.int .u64 (n : Int), .int .i64 16] w fun e w' => (∃ s : ByteArray, bytesL s = fmtL 15 n [] ∧ e = .returned (.string s)) ∧ Below w.heap.size w w' := by
  go_enter Tryz.func85, Tryz.ntmps85
  go_wp2_with fail
  refine (bits_calls n hn _ hw).mono ?_
  rintro e w1 ⟨⟨s, hs, rfl⟩, hb1⟩
  have HS := Lib.hid hs
  have HB := Lib.hid hb1
  clear hs hb1
  go_wp2_with fail
  go_ret
  exact ⟨⟨s, HS.out, rfl⟩, HB.out⟩
set_option maxHeartbeats 4000000 in
set_option maxRecDepth 100000 in
theorem format_calls (n : Nat) (hn : n < 18446744073709551616) (w : World) (hw : KnownW w Aw.tabs) : Calls Tryz.prog 37 #[.int .u64 (n : Int), .int .i64 16] w fun e w' => (∃ s : ByteArray, bytesL s = fmtL 15 n [] ∧ e = .returned (.string s)) ∧ Below w.heap.size w w' := by
  go_enter Tryz.func37, Tryz.ntmps37
  go_wp2_with fail
  refine (inner_calls n hn _ hw).mono ?_
  rintro e w1 ⟨⟨s, hs, rfl⟩, hb1⟩
  have HS := Lib.hid hs
  have HB := Lib.hid hb1
  clear hs hb1
  go_wp2_with fail
  go_ret
  exact ⟨⟨s, HS.out, rfl⟩, HB.out⟩
theorem pad (n : Nat) (hn : n < 18446744073709551616) : ∃ (F : List UInt8) (z : Nat), fmtL 15 n [] = F ∧ z + F.length = 16 ∧ z < 16 ∧ List.replicate z 48 ++ F = wide 16 n := by
  obtain ⟨z, h1, h2⟩ := fmt_wide 15 n [] 15 hn (Nat.le_refl _)
  have h3 := fmt_pos 15 n []
  refine ⟨_, z, rfl, h1, ?_, ?_⟩
  · have h1 : z + (fmtL 15 n []).length = 16 := h1
    generalize (fmtL 15 n []).length = y at h1 h3
    omega
  · rw [h2, List.append_nil]
theorem format2 (n : Nat) (hn : n < 18446744073709551616) (F : List UInt8) (hF : fmtL 15 n [] = F) (w : World) (hw : KnownW w Aw.tabs) : Calls Tryz.prog 37 #[.int .u64 (n : Int), .int .i64 16] w fun e w' => (∃ s : ByteArray, bytesL s = F ∧ e = .returned (.string s)) ∧ Below w.heap.size w w' := by
  subst hF
  exact format_calls n hn w hw
set_option maxHeartbeats 4000000 in
set_option maxRecDepth 100000 in
theorem id_of (n z : Nat) (F Wd : List UInt8) (hz : z + F.length = 16) (hz16 : z < 16) (hW : List.replicate z 48 ++ F = Wd) (w : World)
    (hf : Calls Tryz.prog 37 #[.int .u64 (n : Int), .int .i64 16] w fun e w' => (∃ s : ByteArray, bytesL s = F ∧ e = .returned (.string s)) ∧ Below w.heap.size w w') :
    Calls Tryz.prog 13 #[.int .u64 (n : Int)] w fun e w' => (∃ s : ByteArray, bytesL s = Wd ∧ e = .returned (.string s)) ∧ Below w.heap.size w w' := by
  have HF := Lib.hid hf
  have HW := Lib.hid hW
  clear hf hW
  go_enter Tryz.func13, Tryz.ntmps13
  go_wp2_with fail
  refine HF.out.mono ?_
  rintro e w1 ⟨⟨s, hs, rfl⟩, hb1⟩
  have hsz : s.size = F.length := by rw [← hs]; rfl
  have HS := Lib.hid hs
  have HB := Lib.hid hb1
  clear hs hb1 HF
  have hw16 : (16 : Int) - (s.size : Int) = ((z : Nat) : Int) := by omega
  have hs16 : s.size ≤ 16 := by omega
  clear hsz
  go_wp2_with fail
  refine (Aw.rep_calls z hz16 _).mono ?_
  rintro e w2 ⟨⟨t, ht, rfl⟩, hb2⟩
  have HT := Lib.hid ht
  have ht16 : t.size ≤ 16 := by
    have h1 : (bytesL t).length = t.size := rfl
    rw [ht, List.length_replicate] at h1
    omega
  have HB2 := Lib.hid (two_below HB.out hb2)
  clear ht hb2
  go_wp2_with fail
  go_ret
  refine ⟨⟨t ++ s, ?_, rfl⟩, HB2.out⟩
  rw [bytes_app, HT.out, HS.out, HW.out]
theorem id_calls (n : Nat) (hn : n < 18446744073709551616) (w : World) (hw : KnownW w Aw.tabs) : Calls Tryz.prog 13 #[.int .u64 (n : Int)] w fun e w' => (∃ s : ByteArray, bytesL s = wide 16 n ∧ e = .returned (.string s)) ∧ Below w.heap.size w w' := by
  obtain ⟨F, z, hF, h1, h2, h3⟩ := pad n hn
  exact id_of n z F _ h1 h2 h3 w (format2 n hn F hF w hw)
end Go.Proofs.YtclljmbgkpfgkaaGreatDoor.IdDev
