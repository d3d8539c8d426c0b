/- The document's digits: its walk. No statement of the seat stands here. -/
import Derived.Test.YtclljmbgkpfgkaaGreatDoorChecked
import Derived.Laws.IdiomStrings
import Derived.Lib.OthersKept
import Derived.Tactics
import Derived.Tactics2
import Derived.StillTactics
import Derived.Laws.AppendOwn
import Derived.Laws.Runes
import Derived.Laws.CopyRow
import Derived.Laws.Shifts
import Derived.Laws.Rows
import Derived.Laws.BitsLemmas
import Derived.Laws.Tables
import Derived.Laws.NewBlocks
import Derived.Laws.Unary
import Derived.Laws.Strings
import Derived.Laws.NewFold
import Derived.Laws.ShiftsVarLaws
import Derived.Laws.Bits
import Derived.Laws.Alloc2
import Derived.Laws.Bits128
import Derived.Laws.Strings2
import Derived.Laws.Wrap64
import Derived.Laws.ShiftsVar
import Derived.Laws.Closers25
import Derived.Laws.RangeString
import Derived.Laws.Concat
import Derived.Laws.Cells
import Derived.Laws.NewDeep
import Derived.Laws.Pointers
import Derived.Laws.StructEq
import Derived.Laws.Closers25b
import Derived.Laws.StandIn
import Derived.Laws.Bits64b
import Derived.Laws.LoneSync
import Derived.Laws.ByValue
import Derived.Laws.MathBits
import Derived.Laws.Externs
import Derived.Laws.BitsAll
import Derived.Laws.BitsAllLaws
import Derived.Laws.Bits64
import Derived.Laws.OwnMore
import Derived.Laws.Build
import Derived.Laws.ResultCell
import Derived.Laws.Entries
import Derived.Laws.Append
import Derived.Laws.RangeAny
import Derived.Laws.World
import Derived.Laws.Strings3
import Derived.Laws.Sem
import Derived.Laws.Slices
import Derived.Laws.MakeOwn
import Derived.Laws.Small
import Derived.Laws.BytesString
import Derived.Scope
import Derived.FnLit
import Derived.LoopTactic
import Derived.LoopN
import Derived.Deep.RegionHeld3
import Derived.Lib.Hide
import Derived.Test.YtclljmbgkpfgkaaGreatDoorNmDev
import Derived.Test.YtclljmbgkpfgkaaGreatDoorDigitsDev
set_option linter.unusedSimpArgs false
set_option linter.unusedVariables false
namespace Go.Proofs.YtclljmbgkpfgkaaGreatDoor.RefDev
open Go Go.RowKit Go.Proofs.YtclljmbgkpfgkaaGreatDoor.X Go.Proofs.YtclljmbgkpfgkaaGreatDoor.Nm
theorem two_below {w w1 w2 : World} (h : Below w.heap.size w w1) (h2 : Below w1.heap.size w1 w2) : Below w.heap.size w w2 := h.trans (h2.mono h.size)
theorem drew_below (w : World) : Below w.heap.size w w.drew := ⟨rfl, rfl, rfl, Nat.le_refl _, fun _ _ => rfl⟩
theorem cell_below {w w1 : World} (h : Below w.heap.size w w1) {a : Addr} {v : Value} (hc : w.cell? a = some v) : w1.cell? a = some v := (h.cell (World.block_lt_of_cell? w a hc)).trans hc
def hexS : ByteArray := ⟨#[48, 49, 50, 51, 52, 53, 54, 55, 56, 57, 97, 98, 99, 100, 101, 102]⟩
theorem hex_cut (d : Nat) (h : d < 16) : bytesL (hexS.extract d (d + 1)) = [hexD d] ∧ (hexS.extract d (d + 1)).size = 1 := by
  match d, h with
  | 0, _ => exact ⟨by decide, by decide⟩
  | 1, _ => exact ⟨by decide, by decide⟩
  | 2, _ => exact ⟨by decide, by decide⟩
  | 3, _ => exact ⟨by decide, by decide⟩
  | 4, _ => exact ⟨by decide, by decide⟩
  | 5, _ => exact ⟨by decide, by decide⟩
  | 6, _ => exact ⟨by decide, by decide⟩
  | 7, _ => exact ⟨by decide, by decide⟩
  | 8, _ => exact ⟨by decide, by decide⟩
  | 9, _ => exact ⟨by decide, by decide⟩
  | 10, _ => exact ⟨by decide, by decide⟩
  | 11, _ => exact ⟨by decide, by decide⟩
  | 12, _ => exact ⟨by decide, by decide⟩
  | 13, _ => exact ⟨by decide, by decide⟩
  | 14, _ => exact ⟨by decide, by decide⟩
  | 15, _ => exact ⟨by decide, by decide⟩
  | n + 16, h => exact absurd h (by omega)
theorem bytes_app (s t : ByteArray) : bytesL (s ++ t) = bytesL s ++ bytesL t := by
  show (s ++ t).data.toList = s.data.toList ++ t.data.toList
  simp
theorem hexL_next (bs : List Nat) (j : Nat) (h : j < bs.length) : hexL (bs.take (j + 1)) = hexL (bs.take j) ++ [hexD (bs.getD j 0 / 16), hexD (bs.getD j 0 % 16)] := by
  have app : ∀ a b : List Nat, hexL (a ++ b) = hexL a ++ hexL b := by
    intro a b
    induction a with
    | nil => rfl
    | cons n a ih => simp only [List.cons_append, hexL, ih]
  rw [List.take_add_one, List.getElem?_eq_getElem h, app, List.getD_eq_getElem?_getD, List.getElem?_eq_getElem h]
  rfl
theorem hexL_len : ∀ l : List Nat, (hexL l).length = 2 * l.length
  | [] => rfl
  | n :: l => by simp only [hexL, List.length_cons, hexL_len l]; omega
set_option maxHeartbeats 4000000 in
set_option maxRecDepth 100000 in
theorem digits_calls (bs : List Nat) (hb : ∀ j, bs.getD j 0 < 256) (hn : bs.length ≤ 100) (A : Option Addr) (c : Nat) (hc : bs.length ≤ c) (w : World) (hcell : ∀ j, j < bs.length → ∃ ad, A = some ad ∧ w.cell? (ad.add j) = some (.int .u8 ((bs.getD j 0 : Nat) : Int))) :
    Calls Tryz.prog 38 #[.slice A bs.length c] w fun e w' => (∃ s : ByteArray, bytesL s = hexL bs ∧ e = .returned (.string s)) ∧ Below w.heap.size w w' := by
  have HCELL := Lib.hid hcell
  have HB := Lib.hid hb
  clear hcell hb
  go_enter Tryz.func38, Tryz.ntmps38
  go_wp2_with fail
  go_loopw [3, 4] (fun v3 v4 wr => ∃ (j : Nat) (s : ByteArray), j ≤ bs.length ∧ v4 = .int .i64 j ∧ v3 = .string s ∧ Hid (bytesL s = hexL (bs.take j)) ∧ Hid (s.size ≤ 2 * j) ∧ Hid (Below w.heap.size w wr)) (fun _ v4 _ => bs.length - (DigitsDev.intOf v4).toNat)
  case atStart => exact ⟨0, ⟨#[]⟩, Nat.zero_le _, rfl, rfl, Lib.hid rfl, Lib.hid (Nat.le_refl _), Lib.hid (Below.refl _ _)⟩
  case round =>
    obtain ⟨j, s, hj, rfl, rfl, hs, hsz, hbel⟩ := hrel
    by_cases hlt : j < bs.length
    · obtain ⟨ad, ea, hx⟩ := HCELL.out j hlt
      subst ea
      have hx := cell_below hbel.out hx
      have hbb := HB.out j
      have hnext := hexL_next bs j hlt
      have HN := Lib.hid hnext
      generalize hbe : bs.getD j 0 = b at hx hbb HN
      clear hbe hnext
      have f1 : ((b : Nat) : Int).tdiv 16 = ((b / 16 : Nat) : Int) := by rw [Int.tdiv_eq_ediv_of_nonneg (by omega)]; omega
      have f2 : ((b : Nat) : Int).tmod 16 = ((b % 16 : Nat) : Int) := by rw [Int.tmod_eq_emod_of_nonneg (by omega)]; omega
      have d1 : b / 16 < 16 := by omega
      have d2 : b % 16 < 16 := by omega
      obtain ⟨e1, z1⟩ := hex_cut _ d1
      obtain ⟨e2, z2⟩ := hex_cut _ d2
      generalize b / 16 = q at f1 d1 e1 z1 HN
      generalize b % 16 = r at f2 d2 e2 z2 HN
      have HE1 := Lib.hid e1
      have HE2 := Lib.hid e2
      clear e1 e2
      have hss := hsz.out
      have hin : (0 : Int) ≤ (j : Int) := by omega
      have hin2 : (j : Int) < (bs.length : Int) := by omega
      have g1 : IntKind.u8.wrap (q : Int) = (q : Int) := by rw [IntKind.wrap_u8]; omega
      have g2 : IntKind.u8.wrap ((q : Int) + 1) = (q : Int) + 1 := by rw [IntKind.wrap_u8]; omega
      have g3 : IntKind.u8.wrap ((r : Int) + 1) = (r : Int) + 1 := by rw [IntKind.wrap_u8]; omega
      have g4 : IntKind.u8.wrap (r : Int) = (r : Int) := by rw [IntKind.wrap_u8]; omega
      have q0 : (0 : Int) ≤ (q : Int) := by omega
      have q1 : (q : Int) ≤ (q : Int) + 1 := by omega
      have q2 : (q : Int) + 1 ≤ 16 := by omega
      have r0 : (0 : Int) ≤ (r : Int) := by omega
      have r1 : (r : Int) ≤ (r : Int) + 1 := by omega
      have r2 : (r : Int) + 1 ≤ 16 := by omega
      have q3 : ((q : Int) + 1).toNat = q + 1 := by omega
      have r3 : ((r : Int) + 1).toNat = r + 1 := by omega
      have y1 : ((⟨#[48, 49, 50, 51, 52, 53, 54, 55, 56, 57, 97, 98, 99, 100, 101, 102]⟩ : ByteArray).extract q (q + 1)).size = 1 := z1
      have y2 : ((⟨#[48, 49, 50, 51, 52, 53, 54, 55, 56, 57, 97, 98, 99, 100, 101, 102]⟩ : ByteArray).extract r (r + 1)).size = 1 := z2
      have n1 : ¬ 9223372036854775807 < s.size + 1 := by omega
      have n2 : ¬ 9223372036854775807 < s.size + 1 + 1 := by omega
      have n3 : ¬ 9223372036854775807 < s.size + ((⟨#[48, 49, 50, 51, 52, 53, 54, 55, 56, 57, 97, 98, 99, 100, 101, 102]⟩ : ByteArray).extract q (q + 1)).size := by omega
      have n4 : ¬ 9223372036854775807 < (s ++ (⟨#[48, 49, 50, 51, 52, 53, 54, 55, 56, 57, 97, 98, 99, 100, 101, 102]⟩ : ByteArray).extract q (q + 1)).size + ((⟨#[48, 49, 50, 51, 52, 53, 54, 55, 56, 57, 97, 98, 99, 100, 101, 102]⟩ : ByteArray).extract r (r + 1)).size := by rw [ByteArray.size_append]; omega
      have n5 : ¬ 9223372036854775807 < (s ++ (⟨#[48, 49, 50, 51, 52, 53, 54, 55, 56, 57, 97, 98, 99, 100, 101, 102]⟩ : ByteArray).extract q (q + 1)).size + 1 := by rw [ByteArray.size_append]; omega
      go_wp2_with fail
      go_region_held3 (fun w' => w'.cell? (ad.add j) = some (.int .u8 (b : Int)) ∧ Below wr.heap.size wr w') (first | assumption | exact ⟨cell_below (drew_below _) hx, drew_below _⟩ | go_keep) (fail)
      go_wp2_with fail
      case roundEnd =>
        refine ⟨⟨j + 1, s ++ hexS.extract q (q + 1) ++ hexS.extract r (r + 1), by omega, by go_num, rfl, Lib.hid ?_, Lib.hid ?_, Lib.hid (two_below hbel.out (drew_below _))⟩, by simp [DigitsDev.intOf]; omega⟩
        · rw [bytes_app, bytes_app, hs.out, HE1.out, HE2.out, HN.out, List.append_assoc]; rfl
        · rw [ByteArray.size_append, ByteArray.size_append, z1, z2]; omega
    · obtain rfl : j = bs.length := by omega
      have hall : bs.take bs.length = bs := List.take_of_length_le (Nat.le_refl _)
      have hs' := hs.out
      rw [hall] at hs'
      have HS := Lib.hid hs'
      clear hs hs'
      go_wp2_with fail
      go_ret
      exact ⟨⟨s, HS.out, rfl⟩, hbel.out⟩
theorem plain_iff (n : Nat) : plainB n = true ↔ (65 ≤ n ∧ n ≤ 90) ∨ (n = 45 ∨ n = 95) ∨ (97 ≤ n ∧ n ≤ 122) ∨ (48 ≤ n ∧ n ≤ 57) := by
  simp only [plainB, Bool.or_eq_true, Bool.and_eq_true, Nat.ble_eq, Nat.beq_eq]
  omega
theorem small_iff (n : Nat) : smallN n = true ↔ (97 ≤ n ∧ n ≤ 122) ∨ (48 ≤ n ∧ n ≤ 57) := by
  simp only [smallN, Bool.or_eq_true, Bool.and_eq_true, decide_eq_true_eq]
set_option maxHeartbeats 4000000 in
set_option maxRecDepth 100000 in
theorem small_calls (n : Nat) (hn : n < 256) (w : World) : Calls Tryz.prog 92 #[.int .u8 (n : Int)] w fun e w' => e = .returned (.bool (smallN n)) ∧ w' = w := by
  go_enter Tryz.func92, Tryz.ntmps92
  go_wp2
  all_goals go_ret
  all_goals refine ⟨?_, rfl⟩
  all_goals refine (congrArg (fun b => Ending.returned (Value.bool b)) (Bool.eq_iff_iff.2 ?_) : Ending.returned (Value.bool _) = Ending.returned (Value.bool (smallN n)))
  all_goals rw [small_iff]
  all_goals first | omega | (simp; omega) | (simp_all; done) | (simp_all; omega)
set_option maxHeartbeats 4000000 in
set_option maxRecDepth 100000 in
theorem plain_calls (n : Nat) (hn : n < 256) (w : World) : Calls Tryz.prog 93 #[.int .u8 (n : Int)] w fun e w' => e = .returned (.bool (plainB n)) ∧ w' = w := by
  cases hs : smallN n with
  | true =>
    have hs2 := (small_iff n).1 hs
    go_enter Tryz.func93, Tryz.ntmps93
    go_wp2_with (go_at_call 92; refine (small_calls n hn _).mono ?_; rintro e0 w0 ⟨rfl, rfl⟩; rw [hs])
    all_goals go_ret
    all_goals refine ⟨?_, rfl⟩
    all_goals refine (congrArg (fun b => Ending.returned (Value.bool b)) (Bool.eq_iff_iff.2 ?_) : Ending.returned (Value.bool _) = Ending.returned (Value.bool (plainB n)))
    all_goals rw [plain_iff]
    all_goals first | omega | (simp; omega) | (simp_all; done) | (simp_all; omega)
  | false =>
    have hs2 : ¬ ((97 ≤ n ∧ n ≤ 122) ∨ (48 ≤ n ∧ n ≤ 57)) := fun h => by rw [(small_iff n).2 h] at hs; cases hs
    go_enter Tryz.func93, Tryz.ntmps93
    go_wp2_with (go_at_call 92; refine (small_calls n hn _).mono ?_; rintro e0 w0 ⟨rfl, rfl⟩; rw [hs])
    all_goals go_ret
    all_goals refine ⟨?_, rfl⟩
    all_goals refine (congrArg (fun b => Ending.returned (Value.bool b)) (Bool.eq_iff_iff.2 ?_) : Ending.returned (Value.bool _) = Ending.returned (Value.bool (plainB n)))
    all_goals rw [plain_iff]
    all_goals first | omega | (simp; omega) | (simp_all; done) | (simp_all; omega)
theorem esc_app : ∀ a b : List UInt8, escL (a ++ b) = escL a ++ escL b
  | [], _ => rfl
  | c :: a, b => by
    simp only [List.cons_append, escL, esc_app a b]
    split <;> rfl
theorem esc_length : ∀ l : List UInt8, (escL l).length ≤ 3 * l.length
  | [] => Nat.le_refl _
  | c :: l => by
    have ih := esc_length l
    simp only [escL, List.length_cons]
    split <;> simp only [List.length_cons] <;> omega
theorem esc_next (l : List UInt8) (j : Nat) (h : j < l.length) : escL (l.take (j + 1)) = escL (l.take j) ++ (match plainB (l.getD j 0).toNat with | true => [l.getD j 0] | false => [37, hexD (Nat.div (l.getD j 0).toNat 16), hexD (Nat.mod (l.getD j 0).toNat 16)]) := by
  rw [List.take_add_one, List.getElem?_eq_getElem h, List.getD_eq_getElem?_getD, List.getElem?_eq_getElem h, esc_app]
  rfl
theorem byte_at (k : ByteArray) (j : Nat) (h : j < k.size) : (k[j]'h).toNat = ((bytesL k).getD j 0).toNat := by
  have h' : j < (bytesL k).length := h
  rw [List.getD_eq_getElem?_getD, List.getElem?_eq_getElem h']
  rfl
theorem cut_at (k : ByteArray) (j : Nat) (h : j < k.size) : bytesL (k.extract j (j + 1)) = [(bytesL k).getD j 0] := by
  have h' : j < (bytesL k).length := h
  have h2 : bytesL (k.extract j (j + 1)) = ((bytesL k).drop j).take 1 := by
    show (k.extract j (j + 1)).data.toList = _
    simp [ByteArray.data_extract, bytesL, List.take_drop]
  rw [h2, List.drop_eq_getElem_cons h', List.getD_eq_getElem?_getD, List.getElem?_eq_getElem h']
  rfl
set_option maxHeartbeats 4000000 in
set_option maxRecDepth 100000 in
theorem encoded_calls (k : ByteArray) (hk : k.size ≤ 1000) (w : World) : Calls Tryz.prog 47 #[.string k] w fun e w' => (∃ s : ByteArray, bytesL s = escL (bytesL k) ∧ s.size ≤ 3000 ∧ e = .returned (.string s)) ∧ Below w.heap.size w w' := by
  go_enter Tryz.func47, Tryz.ntmps47
  go_wp2_with fail
  go_loopw [3, 4] (fun v3 v4 wr => ∃ (j : Nat) (s : ByteArray), j ≤ k.size ∧ v4 = .int .i64 j ∧ v3 = .string s ∧ Hid (bytesL s = escL ((bytesL k).take j)) ∧ Hid (Below w.heap.size w wr)) (fun _ v4 _ => k.size - (DigitsDev.intOf v4).toNat)
  case atStart => exact ⟨0, ⟨#[]⟩, Nat.zero_le _, rfl, rfl, Lib.hid rfl, Lib.hid (Below.refl _ _)⟩
  case round =>
    obtain ⟨j, s, hj, rfl, rfl, hs, hbel⟩ := hrel
    have hsz : s.size ≤ 3000 := by
      have h1 := esc_length ((bytesL k).take j)
      have h2 : ((bytesL k).take j).length ≤ j := by rw [List.length_take]; exact Nat.min_le_left _ _
      have h3 : (bytesL s).length = s.size := rfl
      rw [← hs.out, h3] at h1
      omega
    by_cases hlt : j < k.size
    · have hin : (0 : Int) ≤ (j : Int) := by omega
      have hin2 : (j : Int) < (k.size : Int) := by omega
      have hby := byte_at k j hlt
      have hn := esc_next (bytesL k) j hlt
      have hcut := cut_at k j hlt
      generalize hce : (bytesL k).getD j 0 = c at hby hn hcut
      have hm : c.toNat < 256 := c.toNat_lt
      have HN := Lib.hid hn
      have HCUT := Lib.hid hcut
      clear hn hcut hce
      cases hp : plainB c.toNat with
      | true =>
        go_wp2_with (go_at_call 93; refine (plain_calls c.toNat hm _).mono ?_; rintro e0 w0 ⟨rfl, rfl⟩; rw [hp])
        case roundEnd =>
          refine ⟨⟨j + 1, s ++ k.extract j (j + 1), by omega, by go_num, rfl, Lib.hid ?_, hbel⟩, by simp [DigitsDev.intOf]; omega⟩
          rw [bytes_app, hs.out, HCUT.out, HN.out, hp]
      | false =>
        go_wp2_with (go_at_call 93; refine (plain_calls c.toNat hm _).mono ?_; rintro e0 w0 ⟨rfl, rfl⟩; rw [hp])
        have hnew := heap_alloc_new w0 (.cells #[.int .u8 (c.toNat : Int)] 5)
        have hcl : (w0.alloc (.cells #[.int .u8 (c.toNat : Int)] 5)).cell? ⟨w0.heap.size, 0, none⟩ = some (.int .u8 (c.toNat : Int)) := by simp only [World.cell?, hnew]; rfl
        refine (digits_calls [c.toNat] (fun i => by match i with | 0 => exact hm | i + 1 => simp) (by simp) (some ⟨w0.heap.size, 0, none⟩) 1 (by simp) _ (fun i hi => by
          obtain rfl : i = 0 := by simpa using hi
          exact ⟨_, rfl, hcl⟩)).mono ?_
        rintro e w3 ⟨⟨t, ht, rfl⟩, hb3⟩
        have ht2 : t.size = 2 := by
          have h1 : (bytesL t).length = t.size := rfl
          rw [ht] at h1
          rw [← h1]; rfl
        have HT := Lib.hid ht
        have hb4 : Below w.heap.size w w3 := two_below hbel.out (two_below ((Below.refl _ w0).alloc (Nat.le_refl _) _) hb3)
        have HB4 := Lib.hid hb4
        clear hb3 hb4 hcl hnew ht
        go_wp2_with fail
        case roundEnd =>
          refine ⟨⟨j + 1, s ++ ⟨#[37]⟩ ++ t, by omega, by go_num, rfl, Lib.hid ?_, HB4⟩, by simp [DigitsDev.intOf]; omega⟩
          rw [bytes_app, bytes_app, hs.out, HT.out, HN.out, hp, List.append_assoc]
          rfl
    · obtain rfl : j = k.size := by omega
      have hall : (bytesL k).take k.size = bytesL k := List.take_of_length_le (Nat.le_refl _)
      have hs' := hs.out
      rw [hall] at hs'
      go_wp2_with fail
      go_ret
      exact ⟨⟨s, hs', hsz, rfl⟩, hbel.out⟩
end Go.Proofs.YtclljmbgkpfgkaaGreatDoor.RefDev
