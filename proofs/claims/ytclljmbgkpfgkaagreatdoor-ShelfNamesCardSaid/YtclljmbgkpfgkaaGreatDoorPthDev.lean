/- Paths, as the document tells them and as the program does: their walks. No statement of the seat stands here. -/
import Derived.Test.YtclljmbgkpfgkaaGreatDoorChecked
import Derived.Laws.IdiomStrings
import Derived.Lib.OthersKept
import Derived.Tactics
import Derived.Tactics2
import Derived.StillTactics
import Derived.Laws.AppendOwn
import Derived.Laws.Runes
import Derived.Laws.CopyRow
import Derived.Laws.Shifts
import Derived.Laws.Rows
import Derived.Laws.BitsLemmas
import Derived.Laws.Tables
import Derived.Laws.NewBlocks
import Derived.Laws.Unary
import Derived.Laws.Strings
import Derived.Laws.NewFold
import Derived.Laws.ShiftsVarLaws
import Derived.Laws.Bits
import Derived.Laws.Alloc2
import Derived.Laws.Bits128
import Derived.Laws.Strings2
import Derived.Laws.Wrap64
import Derived.Laws.ShiftsVar
import Derived.Laws.Closers25
import Derived.Laws.RangeString
import Derived.Laws.Concat
import Derived.Laws.Cells
import Derived.Laws.NewDeep
import Derived.Laws.Pointers
import Derived.Laws.StructEq
import Derived.Laws.Closers25b
import Derived.Laws.StandIn
import Derived.Laws.Bits64b
import Derived.Laws.LoneSync
import Derived.Laws.ByValue
import Derived.Laws.MathBits
import Derived.Laws.Externs
import Derived.Laws.BitsAll
import Derived.Laws.BitsAllLaws
import Derived.Laws.Bits64
import Derived.Laws.OwnMore
import Derived.Laws.Build
import Derived.Laws.ResultCell
import Derived.Laws.Entries
import Derived.Laws.Append
import Derived.Laws.RangeAny
import Derived.Laws.World
import Derived.Laws.Strings3
import Derived.Laws.Sem
import Derived.Laws.Slices
import Derived.Laws.MakeOwn
import Derived.Laws.Small
import Derived.Laws.BytesString
import Derived.Scope
import Derived.FnLit
import Derived.LoopTactic
import Derived.LoopN
import Derived.Lib.Hide
import Derived.Test.YtclljmbgkpfgkaaGreatDoorRefBuc
import Derived.Test.YtclljmbgkpfgkaaGreatDoorPathDev
set_option linter.unusedSimpArgs false
set_option linter.unusedVariables false
namespace Go.Proofs.YtclljmbgkpfgkaaGreatDoor.PthDev
open Go Go.RowKit Go.Proofs.YtclljmbgkpfgkaaGreatDoor.X Go.Proofs.YtclljmbgkpfgkaaGreatDoor.Nm Go.Proofs.YtclljmbgkpfgkaaGreatDoor.RefDev Go.Proofs.YtclljmbgkpfgkaaGreatDoor.RefBuc Go.Proofs.YtclljmbgkpfgkaaGreatDoor.PShelfNames Go.Proofs.YtclljmbgkpfgkaaGreatDoorW.PrintWords
def pathE (b k : ByteArray) : Int := if bucketB b = true then (if keyB k = true then 0 else 4) else 13
def pathL (b k : ByteArray) : List UInt8 := if bucketB b = true then (if keyB k = true then bytesL b ++ 47 :: escL (bytesL k) else []) else []
set_option maxHeartbeats 4000000 in
set_option maxRecDepth 100000 in
theorem refPath_calls (b k : ByteArray) (hb : b.size ≤ 1000) (hk : k.size ≤ 1000) (w : World) : Calls Tryz.prog 17 #[.string b, .string k] w fun e w' => (∃ s : ByteArray, bytesL s = pathL b k ∧ s.size ≤ 9000 ∧ e = .returned (.tuple #[.string s, .int .i64 (pathE b k)])) ∧ Below w.heap.size w w' := by
  obtain ⟨k1, h1⟩ := bucket_tot b hb
  obtain ⟨k2, h2⟩ := key_tot k hk
  have H1 := Lib.hid h1
  have H2 := Lib.hid h2
  clear h1 h2
  go_enter Tryz.func17, Tryz.ntmps17
  go_wp2_with fail
  refine (stowageref16_Bucket.calls k1 b _ _ H1.out).mono ?_
  rintro e w1 ⟨rfl, hd1⟩
  have HB1 := Lib.hid hd1.below
  clear hd1
  cases hbk : bucketB b with
  | false =>
    go_wp2_with fail
    go_ret2
    exact ⟨⟨⟨#[]⟩, by simp [pathL, hbk]; rfl, by decide, by simp [pathE, hbk]⟩, HB1.out⟩
  | true =>
    go_wp2_with fail
    refine (stowageref16_Key.calls k2 k _ _ H2.out).mono ?_
    rintro e w2 ⟨rfl, hd2⟩
    have HB2 := Lib.hid (two_below HB1.out hd2.below)
    clear hd2
    cases hky : keyB k with
    | false =>
      go_wp2_with fail
      go_ret2
      exact ⟨⟨⟨#[]⟩, by simp [pathL, hbk, hky]; rfl, by decide, by simp [pathE, hbk, hky]⟩, HB2.out⟩
    | true =>
      go_wp2_with fail
      refine (encoded_calls k hk _).mono ?_
      rintro e w3 ⟨⟨t, ht, hts, rfl⟩, hb3⟩
      have HT := Lib.hid ht
      have HB3 := Lib.hid (two_below HB2.out hb3)
      clear hb3 ht
      go_wp2_with fail
      go_ret2
      refine ⟨⟨b ++ ⟨#[47]⟩ ++ t, ?_, ?_, by simp [pathE, hbk, hky]⟩, HB3.out⟩
      · rw [bytes_app, bytes_app, HT.out, pathL, if_pos hbk, if_pos hky, List.append_assoc]; rfl
      · rw [ByteArray.size_append, ByteArray.size_append]
        have : (⟨#[47]⟩ : ByteArray).size = 1 := rfl
        omega
set_option maxHeartbeats 4000000 in
set_option maxRecDepth 100000 in
theorem ref18_calls (b k : ByteArray) (hb : b.size ≤ 1000) (hk : k.size ≤ 1000) (w : World) : Calls Tryz.prog 5 #[.string b, .string k] w fun e w' => (∃ s : ByteArray, bytesL s = (if pathE b k = 0 then 111 :: pathL b k else []) ∧ e = .returned (.tuple #[.string s, .int .i64 (pathE b k)])) ∧ Below w.heap.size w w' := by
  go_enter Tryz.func5, Tryz.ntmps5
  go_wp2_with fail
  refine (refPath_calls b k hb hk _).mono ?_
  rintro e w1 ⟨⟨s, hs, hsz, rfl⟩, hb1⟩
  have HB1 := Lib.hid hb1
  have HS := Lib.hid hs
  clear hb1 hs
  generalize hxe : pathE b k = x
  by_cases hx : x = 0
  · subst hx
    go_wp2_with fail
    go_ret2
    refine ⟨⟨⟨#[111]⟩ ++ s, ?_, by first | rfl | (rw [hxe]; rfl)⟩, HB1.out⟩
    first
      | (rw [bytes_app, HS.out, if_pos hxe]; rfl)
      | (rw [bytes_app, HS.out]; rfl)
  · go_wp2_with fail
    go_ret2
    exact ⟨⟨⟨#[]⟩, by first | rfl | (rw [if_neg (by rw [hxe]; exact hx)]; rfl), by first | rfl | (rw [hxe]; rfl)⟩, HB1.out⟩
theorem nats_at (b : ByteArray) (j : Nat) (h : j < b.size) : (natsL b).drop j = ((bytesL b).getD j 0).toNat :: (natsL b).drop (j + 1) := by
  have hl : j < (natsL b).length := by rw [natsL_len]; exact h
  rw [List.drop_eq_getElem_cons hl]
  congr 1
  have h' : j < (bytesL b).length := h
  simp [natsL, List.getD, h']
set_option maxHeartbeats 4000000 in
set_option maxRecDepth 100000 in
theorem nsmall_calls (n : Nat) (hn : n < 256) (w : World) : Calls Tryz.prog 89 #[.int .u8 (n : Int)] w fun e w' => e = .returned (.bool (smallN n)) ∧ w' = w := by
  go_enter Tryz.func89, Tryz.ntmps89
  go_wp2
  all_goals go_ret
  all_goals refine ⟨?_, rfl⟩
  all_goals refine (congrArg (fun b => Ending.returned (Value.bool b)) (Bool.eq_iff_iff.2 ?_) : Ending.returned (Value.bool _) = Ending.returned (Value.bool (smallN n)))
  all_goals rw [small_iff]
  all_goals first | omega | (simp; omega) | (simp_all; done) | (simp_all; omega)
set_option maxHeartbeats 4000000 in
set_option maxRecDepth 100000 in
theorem bucket_calls (k : ByteArray) (hk : k.size ≤ 1000) (w : World) : Calls Tryz.prog 42 #[.string k] w fun e w' => e = .returned (.bool (bucketB k)) ∧ Below w.heap.size w w' := by
  by_cases h3 : k.size < 3
  · have h3' : (k.size : Int) < 3 := by omega
    go_enter Tryz.func42, Tryz.ntmps42
    go_wp2_with fail
    all_goals first
      | (go_ret; exact ⟨by rw [show bucketB k = false by simp [bucketB]; omega]; rfl, Below.refl _ _⟩)
      | (exfalso; omega)
  · by_cases h32 : 32 < k.size
    · go_enter Tryz.func42, Tryz.ntmps42
      go_wp2_with fail
      all_goals first
        | (go_ret; exact ⟨by rw [show bucketB k = false by simp [bucketB]; omega]; rfl, Below.refl _ _⟩)
        | (exfalso; omega)
    · have hB : bucketB k = mB true false (natsL k) := by
        unfold bucketB
        rw [decide_eq_true (by omega), decide_eq_true (by omega)]; rfl
      go_enter Tryz.func42, Tryz.ntmps42
      go_wp2_with fail
      rw [run_bytes_of_string w 9 31 5 k Tryz.underlying9 Tryz.underlying31 Tryz.underlying5]
      simp only [Result.andThen]
      rw [Oper.upon_value]
      generalize grownCap w k.size 0 5 = cap
      have hC : ∀ j (h : j < k.size), (bytesRow k cap)[j]? = some (.int .u8 (((bytesL k).getD j 0).toNat : Int)) := by
        intro j h
        have h' : j < k.data.size := h
        simp [bytesRow, Array.getElem?_append, h, h', bytesL, List.getD]
      generalize bytesRow k cap = C at hC
      have hr3 : (w.drew.alloc (.cells C 5 (C.size, C.size + 1))).heap[w.heap.size]? = some (.cells C 5 (C.size, C.size + 1)) := heap_alloc_new w.drew _
      have hB3 : Below w.heap.size w (w.drew.alloc (.cells C 5 (C.size, C.size + 1))) := ((Below.refl _ w).drew).alloc (Nat.le_refl _) _
      generalize w.drew.alloc (.cells C 5 (C.size, C.size + 1)) = W3 at hr3 hB3
      have hr3 : Hid _ := Lib.hid hr3
      have hB3 : Hid _ := Lib.hid hB3
      have hC : Hid _ := Lib.hid hC
      have hB : Hid _ := Lib.hid hB
      go_wp2_with fail
      go_loopw [3, 4, 18] (fun v3 v4 v18 wr => ∃ (j : Nat) (dot dash : Bool), j ≤ k.size ∧ v18 = .int .i64 j ∧ v3 = .bool dot ∧ v4 = .bool dash ∧ Hid (mB true false (natsL k) = mB dot dash ((natsL k).drop j)) ∧ wr = W3) (fun _ _ v18 _ => k.size - (DigitsDev.intOf v18).toNat)
      case atStart => exact ⟨0, true, false, Nat.zero_le _, rfl, rfl, rfl, Lib.hid rfl, rfl⟩
      case round =>
        obtain ⟨j, dot, dash, hj, rfl, rfl, rfl, hm, rfl⟩ := hrel
        by_cases hlt : j < k.size
        · have c0 : wr.cell? ⟨w.heap.size, j, none⟩ = some (.int .u8 (((bytesL k).getD j 0).toNat : Int)) := by
            simp only [World.cell?, hr3.out]
            exact hC.out j hlt
          have hd := nats_at k j hlt
          have hm1 := hm.out
          rw [hd] at hm1
          generalize (bytesL k).getD j 0 = c at c0 hm1
          have hc : c.toNat < 256 := c.toNat_lt
          generalize c.toNat = n at c0 hc hm1
          rw [mB] at hm1
          have sc := fun w => nsmall_calls n hc w
          have hin : (0 : Int) ≤ (j : Int) := by omega
          have hin2 : (j : Int) < (k.size : Int) := by omega
          cases hs : smallN n with
          | true =>
            rw [hs] at sc
            rw [hs, if_pos rfl] at hm1
            have HM := Lib.hid hm1
            clear hm1
            go_wp2_with (go_at_call 89; refine (sc _).mono ?_; rintro e0 w0 ⟨rfl, rfl⟩)
            case roundEnd => exact ⟨⟨j + 1, false, false, by omega, by go_num, rfl, rfl, HM, by first | rfl | trivial⟩, by simp [DigitsDev.intOf]; omega⟩
          | false =>
            rw [hs] at sc
            rw [hs, if_neg (by decide)] at hm1
            by_cases h46 : n = 46
            · subst h46
              rw [if_pos rfl] at hm1
              cases dot
              · cases dash
                · rw [if_neg (by decide), if_neg (by decide)] at hm1
                  have HM := Lib.hid hm1
                  clear hm1
                  go_wp2_with (go_at_call 89; refine (sc _).mono ?_; rintro e0 w0 ⟨rfl, rfl⟩)
                  case roundEnd => exact ⟨⟨j + 1, true, false, by omega, by go_num, rfl, rfl, HM, by first | rfl | trivial⟩, by simp [DigitsDev.intOf]; omega⟩
                · rw [if_neg (by decide), if_pos rfl] at hm1
                  have HM := Lib.hid hm1
                  clear hm1
                  go_wp2_with (go_at_call 89; refine (sc _).mono ?_; rintro e0 w0 ⟨rfl, rfl⟩)
                  go_ret
                  exact ⟨by rw [hB.out, HM.out]; rfl, hB3.out⟩
              · rw [if_pos rfl] at hm1
                have HM := Lib.hid hm1
                clear hm1
                go_wp2_with (go_at_call 89; refine (sc _).mono ?_; rintro e0 w0 ⟨rfl, rfl⟩)
                go_ret
                exact ⟨by rw [hB.out, HM.out]; rfl, hB3.out⟩
            · rw [if_neg h46] at hm1
              by_cases h45 : n = 45
              · subst h45
                rw [if_pos rfl] at hm1
                cases dot
                · rw [if_neg (by decide)] at hm1
                  have HM := Lib.hid hm1
                  clear hm1
                  go_wp2_with (go_at_call 89; refine (sc _).mono ?_; rintro e0 w0 ⟨rfl, rfl⟩)
                  case roundEnd => exact ⟨⟨j + 1, false, true, by omega, by go_num, rfl, rfl, HM, by first | rfl | trivial⟩, by simp [DigitsDev.intOf]; omega⟩
                · rw [if_pos rfl] at hm1
                  have HM := Lib.hid hm1
                  clear hm1
                  go_wp2_with (go_at_call 89; refine (sc _).mono ?_; rintro e0 w0 ⟨rfl, rfl⟩)
                  go_ret
                  exact ⟨by rw [hB.out, HM.out]; rfl, hB3.out⟩
              · rw [if_neg h45] at hm1
                have HM := Lib.hid hm1
                have h46' : ¬ (n : Int) = 46 := by omega
                have h45' : ¬ (n : Int) = 45 := by omega
                clear hm1
                go_wp2_with (go_at_call 89; refine (sc _).mono ?_; rintro e0 w0 ⟨rfl, rfl⟩)
                go_ret
                exact ⟨by rw [hB.out, HM.out]; rfl, hB3.out⟩
        · obtain rfl : j = k.size := by omega
          have hm1 := hm.out
          rw [List.drop_of_length_le (by rw [natsL_len]; omega), mB] at hm1
          have HM := Lib.hid hm1
          clear hm1 hm
          cases dot <;> cases dash
          all_goals
            go_wp2_with fail
            go_ret
            exact ⟨by rw [hB.out, HM.out]; rfl, hB3.out⟩
set_option maxHeartbeats 4000000 in
set_option maxRecDepth 100000 in
theorem key_calls (k : ByteArray) (hk : k.size ≤ 1000) (w : World) : Calls Tryz.prog 43 #[.string k] w fun e w' => e = .returned (.bool (keyB k)) ∧ Below w.heap.size w w' := by
  go_enter Tryz.func43, Tryz.ntmps43
  go_wp2_with fail
  rw [run_bytes_of_string w 9 31 5 k Tryz.underlying9 Tryz.underlying31 Tryz.underlying5]
  simp only [Result.andThen]
  rw [Oper.upon_value]
  generalize grownCap w k.size 0 5 = cap
  have hC : ∀ j (h : j < k.size), (bytesRow k cap)[j]? = some (.int .u8 (((bytesL k).getD j 0).toNat : Int)) := by
    intro j h
    have h' : j < k.data.size := h
    simp [bytesRow, Array.getElem?_append, h, h', bytesL, List.getD]
  generalize bytesRow k cap = C at hC
  have hr3 : (w.drew.alloc (.cells C 5 (C.size, C.size + 1))).heap[w.heap.size]? = some (.cells C 5 (C.size, C.size + 1)) := heap_alloc_new w.drew _
  have hB3 : Below w.heap.size w (w.drew.alloc (.cells C 5 (C.size, C.size + 1))) := ((Below.refl _ w).drew).alloc (Nat.le_refl _) _
  generalize w.drew.alloc (.cells C 5 (C.size, C.size + 1)) = W3 at hr3 hB3
  have hr3 : Hid _ := Lib.hid hr3
  have hB3 : Hid _ := Lib.hid hB3
  have hC : Hid _ := Lib.hid hC
  go_wp2_with fail
  go_loopw [8] (fun v8 wr => ∃ j : Nat, j ≤ k.size ∧ v8 = .int .i64 j ∧ Hid (keyL (natsL k) = keyL ((natsL k).drop j)) ∧ wr = W3) (fun v8 _ => k.size - (DigitsDev.intOf v8).toNat)
  case atStart => exact ⟨0, Nat.zero_le _, rfl, Lib.hid rfl, rfl⟩
  case round =>
    obtain ⟨j, hj, rfl, hm, rfl⟩ := hrel
    by_cases hlt : j < k.size
    · have c0 : wr.cell? ⟨w.heap.size, j, none⟩ = some (.int .u8 (((bytesL k).getD j 0).toNat : Int)) := by
        simp only [World.cell?, hr3.out]
        exact hC.out j hlt
      have hd := nats_at k j hlt
      have hm1 := hm.out
      rw [hd] at hm1
      generalize (bytesL k).getD j 0 = c at c0 hm1
      have hc : c.toNat < 256 := c.toNat_lt
      generalize c.toNat = n at c0 hc hm1
      have hin : (0 : Int) ≤ (j : Int) := by omega
      have hin2 : (j : Int) < (k.size : Int) := by omega
      by_cases h1 : 32 ≤ n
      · by_cases h2 : n ≤ 126
        · have h1' : ¬ (n : Int) < 32 := by omega
          have h2' : ¬ (n : Int) > 126 := by omega
          have e : keyL (n :: (natsL k).drop (j + 1)) = keyL ((natsL k).drop (j + 1)) := by simp [RefBuc.keyL, h1, h2]
          rw [e] at hm1
          have HM := Lib.hid hm1
          clear hm1 e
          go_wp2_with fail
          case roundEnd => exact ⟨⟨j + 1, by omega, by go_num, HM, by first | rfl | trivial⟩, by simp [DigitsDev.intOf]; omega⟩
        · have h1' : ¬ (n : Int) < 32 := by omega
          have h2' : (n : Int) > 126 := by omega
          have e : keyB k = false := by unfold keyB; rw [hm1]; simp [RefBuc.keyL, h2]
          have HE := Lib.hid e
          clear hm1 e
          go_wp2_with fail
          go_ret
          exact ⟨by rw [HE.out]; rfl, hB3.out⟩
      · have h1' : (n : Int) < 32 := by omega
        have e : keyB k = false := by unfold keyB; rw [hm1]; simp [RefBuc.keyL, h1]
        have HE := Lib.hid e
        clear hm1 e
        go_wp2_with fail
        go_ret
        exact ⟨by rw [HE.out]; rfl, hB3.out⟩
    · obtain rfl : j = k.size := by omega
      have hm1 := hm.out
      rw [List.drop_of_length_le (by rw [natsL_len]; omega)] at hm1
      have e : keyB k = (decide (1 ≤ k.size) && decide (k.size ≤ 120)) := by unfold keyB; rw [hm1]; simp [RefBuc.keyL]
      have HE := Lib.hid e
      clear hm1 e hm
      by_cases h1 : 1 ≤ k.size
      · by_cases h2 : k.size ≤ 120
        · have h1' : (k.size : Int) ≥ 1 := by omega
          have h2' : (k.size : Int) ≤ 120 := by omega
          go_wp2_with fail
          all_goals first
            | (go_ret; exact ⟨by rw [HE.out, decide_eq_true h1, decide_eq_true h2]; rfl, hB3.out⟩)
            | (go_ret; exact ⟨by rw [HE.out, decide_eq_true h1, decide_eq_true h2]; simp; omega, hB3.out⟩)
            | (exfalso; omega)
        · have h1' : (k.size : Int) ≥ 1 := by omega
          have h2' : ¬ (k.size : Int) ≤ 120 := by omega
          go_wp2_with fail
          all_goals first
            | (go_ret; exact ⟨by rw [HE.out, decide_eq_true h1, decide_eq_false h2]; rfl, hB3.out⟩)
            | (go_ret; exact ⟨by rw [HE.out, decide_eq_true h1, decide_eq_false h2]; simp; omega, hB3.out⟩)
            | (exfalso; omega)
      · have h1' : ¬ (k.size : Int) ≥ 1 := by omega
        go_wp2_with fail
        all_goals first
          | (go_ret; exact ⟨by rw [HE.out, decide_eq_false h1]; rfl, hB3.out⟩)
          | (exfalso; omega)
set_option maxHeartbeats 4000000 in
set_option maxRecDepth 100000 in
theorem namePath_calls (b k : ByteArray) (hb : b.size ≤ 1000) (hk : k.size ≤ 1000) (w : World) : Calls Tryz.prog 16 #[.string b, .string k] w fun e w' => (∃ s : ByteArray, bytesL s = pathL b k ∧ s.size ≤ 9000 ∧ e = .returned (.tuple #[.string s, .int .i64 (pathE b k)])) ∧ Below w.heap.size w w' := by
  go_enter Tryz.func16, Tryz.ntmps16
  go_wp2_with fail
  refine (bucket_calls b hb _).mono ?_
  rintro e w1 ⟨rfl, hb1⟩
  have HB1 := Lib.hid hb1
  clear hb1
  cases hbk : bucketB b with
  | false =>
    go_wp2_with fail
    go_ret2
    exact ⟨⟨⟨#[]⟩, by simp [pathL, hbk]; rfl, by decide, by simp [pathE, hbk]⟩, HB1.out⟩
  | true =>
    go_wp2_with fail
    refine (key_calls k hk _).mono ?_
    rintro e w2 ⟨rfl, hb2⟩
    have HB2 := Lib.hid (two_below HB1.out hb2)
    clear hb2
    cases hky : keyB k with
    | false =>
      go_wp2_with fail
      go_ret2
      exact ⟨⟨⟨#[]⟩, by simp [pathL, hbk, hky]; rfl, by decide, by simp [pathE, hbk, hky]⟩, HB2.out⟩
    | true =>
      go_wp2_with fail
      refine (PathDev.path_spec [.string b, .string k] (.string ⟨(bytesL b ++ 47 :: escL (bytesL k)).toArray⟩) _ (by simp only [pathG]; rw [Nat.ble_eq_true_of_le (show b.size ≤ 1000000 by omega), Nat.ble_eq_true_of_le (show k.size ≤ 1000000 by omega)]; rfl)).mono ?_
      rintro e w3 ⟨rfl, hb3⟩
      have HB3 := Lib.hid (two_below HB2.out hb3)
      clear hb3
      go_wp2_with fail
      go_ret2
      refine ⟨⟨_, ?_, ?_, by first | rfl | (simp [pathE, hbk, hky]; rfl) | simp [pathE, hbk, hky]⟩, HB3.out⟩
      · rw [pathL, if_pos hbk, if_pos hky]; rfl
      · have h1 := esc_length (bytesL k)
        have h2 : (bytesL k).length = k.size := rfl
        have h3 : (bytesL b).length = b.size := rfl
        show (bytesL b ++ 47 :: escL (bytesL k)).toArray.size ≤ 9000
        simp only [List.size_toArray, List.length_append, List.length_cons]
        omega
set_option maxHeartbeats 4000000 in
set_option maxRecDepth 100000 in
theorem shelfPath_calls (b k : ByteArray) (hb : b.size ≤ 1000) (hk : k.size ≤ 1000) (w : World) : Calls Tryz.prog 4 #[.string b, .string k] w fun e w' => (∃ s : ByteArray, bytesL s = (if pathE b k = 0 then 111 :: pathL b k else []) ∧ e = .returned (.tuple #[.string s, .int .i64 (pathE b k)])) ∧ Below w.heap.size w w' := by
  go_enter Tryz.func4, Tryz.ntmps4
  go_wp2_with fail
  refine (namePath_calls b k hb hk _).mono ?_
  rintro e w1 ⟨⟨s, hs, hsz, rfl⟩, hb1⟩
  have HB1 := Lib.hid hb1
  have HS := Lib.hid hs
  clear hb1 hs
  generalize hxe : pathE b k = x
  by_cases hx : x = 0
  · subst hx
    go_wp2_with fail
    go_ret2
    refine ⟨⟨⟨#[111]⟩ ++ s, ?_, by first | rfl | (rw [hxe]; rfl)⟩, HB1.out⟩
    first
      | (rw [bytes_app, HS.out, if_pos hxe]; rfl)
      | (rw [bytes_app, HS.out]; rfl)
  · go_wp2_with fail
    go_ret2
    exact ⟨⟨⟨#[]⟩, by first | rfl | (rw [if_neg (by rw [hxe]; exact hx)]; rfl), by first | rfl | (rw [hxe]; rfl)⟩, HB1.out⟩
end Go.Proofs.YtclljmbgkpfgkaaGreatDoor.PthDev
