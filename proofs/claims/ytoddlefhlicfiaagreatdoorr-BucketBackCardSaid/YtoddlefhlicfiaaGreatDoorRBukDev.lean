/- name.Bucket: what it does. No statement of the seat stands here. -/
import Derived.Test.YtoddlefhlicfiaaGreatDoorRMemDev
import Derived.Laws.IdiomStrings
import Derived.Below
import Derived.Deep.Draws
import Derived.Deep.AppendLies
import Derived.Maps.AppendAt
import Derived.OwnWalk
import Derived.Laws.BytesArg
import Derived.Laws.MakeOwn
import Derived.Laws.OwnMore
import Derived.Deep.OwnRows
import Derived.Tactics
import Derived.Lib.ConvBytes
import Derived.Laws.Slices
import Derived.WalkKit
import Derived.KernelRfl
import Derived.RowKit3
import Derived.Deep.LoopGhost
import Derived.Deep.QuietTactic
import Derived.BigQuiet
import Derived.WideLaws
import Derived.Deep.DeepCutAuto
import Derived.Deep.CutBlock
import Derived.Deep.RegionHeld3
import Derived.Laws.Rows
import Derived.Lib.AppendStr
import Derived.ArgAppend
import Derived.Laws.IdiomCopy
import Derived.OrdersHeld
import Derived.Laws.BitsLemmas
import Derived.RowKit
import Derived.WalkLawsBesides
import Derived.WalkSpells
set_option linter.unusedSimpArgs false
set_option linter.unusedVariables false
namespace Go.Proofs.YtoddlefhlicfiaaGreatDoorR.RdrDev
open Go Go.RowKit
def intAt2 : Value → Int
  | .int _ n => n
  | _ => 0
/-- a small letter or a digit -/
def smallN (c : Nat) : Bool := (decide (97 ≤ c) && decide (c ≤ 122)) || (decide (48 ≤ c) && decide (c ≤ 57))
/-- the program's way through a name: is what is ahead a dot or the beginning, is it a dash -/
def mB : Bool → Bool → List Nat → Bool
  | dot, dash, [] => !dot && !dash
  | dot, dash, c :: l => if smallN c = true then mB false false l else if c = 46 then (if dot = true then false else if dash = true then false else mB true false l) else if c = 45 then (if dot = true then false else mB false true l) else false
def bucketN (l : List Nat) : Bool := decide (3 ≤ l.length) && decide (l.length ≤ 32) && mB true false l
theorem bucketN_short (k : ByteArray) (h : k.size < 3) : bucketN (sn k) = false := by
  unfold bucketN
  rw [sn_len, decide_eq_false (show ¬ 3 ≤ k.size by omega)]
  rfl
theorem bucketN_long (k : ByteArray) (h : 32 < k.size) : bucketN (sn k) = false := by
  unfold bucketN
  rw [sn_len, decide_eq_false (show ¬ k.size ≤ 32 by omega), Bool.and_false]
  rfl
theorem small_iff (n : Nat) : smallN n = true ↔ (97 ≤ n ∧ n ≤ 122) ∨ (48 ≤ n ∧ n ≤ 57) := by
  simp only [smallN, Bool.or_eq_true, Bool.and_eq_true, decide_eq_true_eq]
theorem sn_at (b : ByteArray) (j : Nat) (h : j < b.size) : (sn b).drop j = (sn b).getD j 0 :: (sn b).drop (j + 1) := by
  have hl : j < (sn b).length := by rw [sn_len]; exact h
  rw [List.drop_eq_getElem_cons hl, List.getD_eq_getElem?_getD, List.getElem?_eq_getElem hl]
  rfl
theorem sn_get (k : ByteArray) (j : Nat) (h : j < k.size) : (sn k).getD j 0 = (k.data[j]'h).toNat := by
  have h' : j < k.data.size := h
  simp [sn, List.getD, List.getElem?_map, Array.getElem?_toList, Array.getElem?_eq_getElem h']
set_option maxHeartbeats 4000000 in
set_option maxRecDepth 100000 in
theorem nsmall_calls (n : Nat) (hn : n < 256) (w : World) : Calls Tryz.prog 56 #[.int .u8 (n : Int)] w fun e w' => e = .returned (.bool (smallN n)) ∧ w' = w := by
  go_enter Tryz.func56, Tryz.ntmps56
  go_wp2
  all_goals go_ret
  all_goals refine ⟨?_, rfl⟩
  all_goals refine (congrArg (fun b => Ending.returned (Value.bool b)) (Bool.eq_iff_iff.2 ?_) : Ending.returned (Value.bool _) = Ending.returned (Value.bool (smallN n)))
  all_goals rw [small_iff]
  all_goals first | omega | (simp; omega) | (simp_all; done) | (simp_all; omega)
set_option maxHeartbeats 4000000 in
set_option maxRecDepth 100000 in
theorem bucket_calls (k : ByteArray) (hk : k.size ≤ 1000000000) (w : World) : Calls Tryz.prog 24 #[.string k] w fun e w' => e = .returned (.bool (bucketN (sn k))) ∧ Below w.heap.size w w' := by
  by_cases h3 : k.size < 3
  · have h3' : (k.size : Int) < 3 := by omega
    go_enter Tryz.func24, Tryz.ntmps24
    go_wp2_with fail
    all_goals first
      | (go_ret; exact ⟨by first | (rw [bucketN_short k h3]; done) | (rw [bucketN_short k h3]; rfl), Below.refl _ _⟩)
      | (exfalso; omega)
  · by_cases h32 : 32 < k.size
    · go_enter Tryz.func24, Tryz.ntmps24
      go_wp2_with fail
      all_goals first
        | (go_ret; exact ⟨by first | (rw [bucketN_long k h32]; done) | (rw [bucketN_long k h32]; rfl), Below.refl _ _⟩)
        | (exfalso; omega)
    · have hB : bucketN (sn k) = mB true false (sn k) := by
        unfold bucketN
        rw [decide_eq_true (by rw [sn_len]; omega), decide_eq_true (by rw [sn_len]; omega)]; rfl
      go_enter Tryz.func24, Tryz.ntmps24
      go_wp2_with fail
      rw [run_bytes_of_string w 9 27 5 k Tryz.underlying9 Tryz.underlying27 Tryz.underlying5]
      simp only [Result.andThen]
      rw [Oper.upon_value]
      generalize grownCap w k.size 0 5 = cap
      have hC : ∀ j (h : j < k.size), (bytesRow k cap)[j]? = some (.int .u8 (((sn k).getD j 0 : Nat) : Int)) := by
        intro j h
        rw [sn_get k j h]
        have h' : j < k.data.size := h
        simp [bytesRow, Array.getElem?_append, h, h']
      generalize bytesRow k cap = C at hC
      have hr3 : (w.drew.alloc (.cells C 5 (C.size, C.size + 1))).heap[w.heap.size]? = some (.cells C 5 (C.size, C.size + 1)) := heap_alloc_new w.drew _
      have hB3 : Below w.heap.size w (w.drew.alloc (.cells C 5 (C.size, C.size + 1))) := ((Below.refl _ w).drew).alloc (Nat.le_refl _) _
      generalize w.drew.alloc (.cells C 5 (C.size, C.size + 1)) = W3 at hr3 hB3
      have hr3 : Hid _ := Lib.hid hr3
      have hB3 : Hid _ := Lib.hid hB3
      have hC : Hid _ := Lib.hid hC
      have hB : Hid _ := Lib.hid hB
      go_wp2_with fail
      go_loopw [3, 4, 18] (fun v3 v4 v18 wr => ∃ (j : Nat) (dot dash : Bool), j ≤ k.size ∧ v18 = .int .i64 j ∧ v3 = .bool dot ∧ v4 = .bool dash ∧ Hid (mB true false (sn k) = mB dot dash ((sn k).drop j)) ∧ wr = W3) (fun _ _ v18 _ => k.size - (intAt2 v18).toNat)
      case atStart => exact ⟨0, true, false, Nat.zero_le _, rfl, rfl, rfl, Lib.hid rfl, rfl⟩
      case round =>
        obtain ⟨j, dot, dash, hj, rfl, rfl, rfl, hm, rfl⟩ := hrel
        by_cases hlt : j < k.size
        · have c0 : wr.cell? ⟨w.heap.size, j, none⟩ = some (.int .u8 (((sn k).getD j 0 : Nat) : Int)) := by
            simp only [World.cell?, hr3.out]
            exact hC.out j hlt
          have hd := sn_at k j hlt
          have hm1 := hm.out
          rw [hd] at hm1
          have hc : (sn k).getD j 0 < 256 := by rw [sn_get k j hlt]; exact UInt8.toNat_lt _
          generalize (sn k).getD j 0 = n at c0 hc hm1
          rw [mB] at hm1
          have sc := fun w => nsmall_calls n hc w
          have hin : (0 : Int) ≤ (j : Int) := by omega
          have hin2 : (j : Int) < (k.size : Int) := by omega
          cases hs : smallN n with
          | true =>
            rw [hs] at sc
            rw [hs, if_pos rfl] at hm1
            have HM := Lib.hid hm1
            clear hm1
            go_wp2_with (go_at_call 56; refine (sc _).mono ?_; rintro e0 w0 ⟨rfl, rfl⟩)
            case roundEnd => exact ⟨⟨j + 1, false, false, by omega, by go_num, rfl, rfl, HM, by first | rfl | trivial⟩, by simp [intAt2]; omega⟩
          | false =>
            rw [hs] at sc
            rw [hs, if_neg (by decide)] at hm1
            by_cases h46 : n = 46
            · subst h46
              rw [if_pos rfl] at hm1
              cases dot
              · cases dash
                · rw [if_neg (by decide), if_neg (by decide)] at hm1
                  have HM := Lib.hid hm1
                  clear hm1
                  go_wp2_with (go_at_call 56; refine (sc _).mono ?_; rintro e0 w0 ⟨rfl, rfl⟩)
                  case roundEnd => exact ⟨⟨j + 1, true, false, by omega, by go_num, rfl, rfl, HM, by first | rfl | trivial⟩, by simp [intAt2]; omega⟩
                · rw [if_neg (by decide), if_pos rfl] at hm1
                  have HM := Lib.hid hm1
                  clear hm1
                  go_wp2_with (go_at_call 56; refine (sc _).mono ?_; rintro e0 w0 ⟨rfl, rfl⟩)
                  go_ret
                  exact ⟨by rw [hB.out, HM.out]; rfl, hB3.out⟩
              · rw [if_pos rfl] at hm1
                have HM := Lib.hid hm1
                clear hm1
                go_wp2_with (go_at_call 56; refine (sc _).mono ?_; rintro e0 w0 ⟨rfl, rfl⟩)
                go_ret
                exact ⟨by rw [hB.out, HM.out]; rfl, hB3.out⟩
            · rw [if_neg h46] at hm1
              by_cases h45 : n = 45
              · subst h45
                rw [if_pos rfl] at hm1
                cases dot
                · rw [if_neg (by decide)] at hm1
                  have HM := Lib.hid hm1
                  clear hm1
                  go_wp2_with (go_at_call 56; refine (sc _).mono ?_; rintro e0 w0 ⟨rfl, rfl⟩)
                  case roundEnd => exact ⟨⟨j + 1, false, true, by omega, by go_num, rfl, rfl, HM, by first | rfl | trivial⟩, by simp [intAt2]; omega⟩
                · rw [if_pos rfl] at hm1
                  have HM := Lib.hid hm1
                  clear hm1
                  go_wp2_with (go_at_call 56; refine (sc _).mono ?_; rintro e0 w0 ⟨rfl, rfl⟩)
                  go_ret
                  exact ⟨by rw [hB.out, HM.out]; rfl, hB3.out⟩
              · rw [if_neg h45] at hm1
                have HM := Lib.hid hm1
                have h46' : ¬ (n : Int) = 46 := by omega
                have h45' : ¬ (n : Int) = 45 := by omega
                clear hm1
                go_wp2_with (go_at_call 56; refine (sc _).mono ?_; rintro e0 w0 ⟨rfl, rfl⟩)
                go_ret
                exact ⟨by rw [hB.out, HM.out]; rfl, hB3.out⟩
        · obtain rfl : j = k.size := by omega
          have hm1 := hm.out
          rw [List.drop_of_length_le (by rw [sn_len]; omega), mB] at hm1
          have HM := Lib.hid hm1
          clear hm1 hm
          cases dot <;> cases dash
          all_goals
            go_wp2_with fail
            go_ret
            exact ⟨by rw [hB.out, HM.out]; rfl, hB3.out⟩
end Go.Proofs.YtoddlefhlicfiaaGreatDoorR.RdrDev
