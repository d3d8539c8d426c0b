/- The reader of numbers: what it does. No statement of the seat stands here. -/
import Derived.Test.YtoddlefhlicfiaaGreatDoorRMemDev
import Derived.Test.YtoddlefhlicfiaaGreatDoorRBbMath
import Derived.Maps.AppendAt
set_option linter.unusedSimpArgs false
set_option linter.unusedVariables false
namespace Go.Proofs.YtoddlefhlicfiaaGreatDoorR.RdrDev
open Go Go.RowKit Go.Proofs.Bb
theorem RB.marked {W : World} {g : Nat} {A : Option Addr} {c : Nat} {bs : List Nat} {bad : Bool} (h : RdrAt W g A bs.length c bad) (hc : bs.length ≤ c) (hb : BytesAt W A bs) (hA : ∀ ad, A = some ad → ad.block ≠ g) (q : Bool) : RB (W.setCell ⟨g, 1, none⟩ (.bool q)) g bs q := by
  refine ⟨A, c, ?_, hc, hb.kept (g := g) hA (grown_set _ _ _ _), hA⟩
  unfold RdrAt
  rw [block_set h 1]
  rfl
theorem p128 (i : Nat) : 128 ^ i = 2 ^ (7 * i) := by rw [Nat.pow_mul]
theorem p6 (i : Nat) (hi : i < 6) : 128 ^ i ≤ 34359738368 := by
  have : 128 ^ i ≤ 128 ^ 5 := Nat.pow_le_pow_right (by decide) (by omega)
  omega
theorem shl_at (x i : Nat) (hx : x < 128) (hi : i < 6) : Op.shift .shl .i64 (x : Int) .i64 ((7 * i : Nat) : Int) = pure (.int .i64 ((x * 128 ^ i : Nat) : Int)) := by
  rw [shift_shl_i64 (x := (x : Int)) (y := ((7 * i : Nat) : Int)) (yk := .i64) (by omega) (by omega), Int.toNat_natCast, show (x : Int) * 2 ^ (7 * i) = ((x * 128 ^ i : Nat) : Int) by rw [p128]; push_cast; rfl]
  have h := p6 i hi
  have h2 : x * 128 ^ i ≤ 128 * 34359738368 := Nat.mul_le_mul (by omega) h
  generalize x * 128 ^ i = q at h2
  rw [IntKind.wrap_i64, show ((q : Int) + 9223372036854775808) % 18446744073709551616 - 9223372036854775808 = (q : Int) by omega]
theorem or_at (n x i : Nat) (hn : n < 128 ^ i) (hx : x < 128) (hi : i < 6) : bits .or .i64 (n : Int) ((x * 128 ^ i : Nat) : Int) = ((n + x * 128 ^ i : Nat) : Int) := by
  have h := p6 i hi
  have h2 : x * 128 ^ i ≤ 128 * 34359738368 := Nat.mul_le_mul (by omega) h
  have hl := (bits_nat .i64 63 (by decide) (fun n h0 h1 => by rw [IntKind.wrap_i64]; omega) n (x * 128 ^ i) (by omega) (by omega)).2
  rw [hl]
  congr 1
  rw [p128] at hn ⊢
  rw [Nat.or_comm, Nat.mul_comm x, Nat.add_comm, Nat.two_pow_add_eq_or_of_lt hn]
theorem or_all (n x i : Nat) (s : Int) (hn : n < 128 ^ i) (hx : x < 128) (hi : i < 6) (hs : s = ((7 * i : Nat) : Int)) : bits .or .i64 (n : Int) (((((x : Int) + 9223372036854775808) % 18446744073709551616 - 9223372036854775808) * 2 ^ s.toNat + 9223372036854775808) % 18446744073709551616 - 9223372036854775808) = ((n + x * 128 ^ i : Nat) : Int) := by
  have h := p6 i hi
  have h2 : x * 128 ^ i ≤ 128 * 34359738368 := Nat.mul_le_mul (by omega) h
  have h3 := or_at n x i hn hx hi
  have h4 : (x : Int) * 2 ^ (7 * i) = ((x * 128 ^ i : Nat) : Int) := by rw [p128]; push_cast; rfl
  generalize x * 128 ^ i = q at h2 h3 h4
  rw [show ((x : Int) + 9223372036854775808) % 18446744073709551616 - 9223372036854775808 = (x : Int) by omega, hs, Int.toNat_natCast, h4, show ((q : Int) + 9223372036854775808) % 18446744073709551616 - 9223372036854775808 = (q : Int) by omega]
  exact h3
theorem or_all2 (n x i : Nat) (s : Int) (hn : n < 128 ^ i) (hx : x < 128) (hi : i < 6) (hs : s = ((7 * i : Nat) : Int)) : bits .or .i64 (n : Int) (wrap64 (wrap64 (x : Int) * 2 ^ s.toNat)) = ((n + x * 128 ^ i : Nat) : Int) := by
  have h := p6 i hi
  have h2 : x * 128 ^ i ≤ 128 * 34359738368 := Nat.mul_le_mul (by omega) h
  have h3 := or_at n x i hn hx hi
  have h4 : (x : Int) * 2 ^ (7 * i) = ((x * 128 ^ i : Nat) : Int) := by rw [p128]; push_cast; rfl
  generalize x * 128 ^ i = q at h2 h3 h4
  rw [IntWalk.wrap64_in (x : Int) ⟨by omega, by omega⟩, hs, Int.toNat_natCast, h4, IntWalk.wrap64_in (q : Int) ⟨by omega, by omega⟩]
  exact h3
theorem w7 (s : Int) (h0 : 0 ≤ s) (h1 : s ≤ 64) : wrap64 (s + 7) = s + 7 := IntWalk.wrap64_in _ ⟨by omega, by omega⟩
theorem step_lt (n x i y : Nat) (hy : y = n + x * 128 ^ i) (hn : n < 128 ^ i) (hx : x < 128) : y < 128 ^ (i + 1) := by
  rw [hy, Nat.pow_succ]
  have : x * 128 ^ i ≤ 127 * 128 ^ i := Nat.mul_le_mul_right _ (by omega)
  omega
def iOf : Value → Int
  | .int _ n => n
  | _ => 0
set_option maxHeartbeats 8000000 in
set_option maxRecDepth 100000 in
theorem number_calls (g : Nat) (bs : List Nat) (hb : ∀ x ∈ bs, x < 256) (w : World) (h : RB w g bs false) :
    Calls Tryz.prog 62 #[.pointer (some ⟨g, 0, none⟩)] w fun e w' => (∃ n : Int, e = .returned (.int .i64 n) ∧ (∀ m rest, decU 0 0 bs = some (m, rest) → n = (m : Int) ∧ RB w' g rest false) ∧ (decU 0 0 bs = none → ∃ rest, RB w' g rest true)) ∧ w.grownBy w' (some g) := by
  have H := Lib.hid h
  have HB := Lib.hid hb
  clear h hb
  go_enter Tryz.func62, Tryz.ntmps62
  go_wp2_with fail
  go_loopw [3, 4] (fun v3 v4 wr => ∃ (i n : Nat) (l : List Nat) (s : Int), i ≤ 6 ∧ v3 = .int .i64 (n : Int) ∧ v4 = .int .i64 s ∧ Hid (s = ((7 * i : Nat) : Int)) ∧ Hid (n < 128 ^ i) ∧ Hid (decU 0 0 bs = if i < 6 then decU i n l else none) ∧ Hid (∀ x ∈ l, x < 256) ∧ Hid (RB wr g l false) ∧ Hid (w.grownBy wr (some g))) (fun _ v4 _ => (42 - iOf v4).toNat)
  case atStart => exact ⟨0, 0, bs, 0, by omega, rfl, rfl, Lib.hid rfl, Lib.hid (by decide), Lib.hid rfl, HB, H, Lib.hid ⟨rfl, rfl, rfl, Nat.le_refl _, fun _ _ _ => rfl⟩⟩
  case round =>
    obtain ⟨i, n, l, s, hi, rfl, rfl, hs, hn, hd, hl, hr, hg⟩ := hrel
    by_cases h6 : i < 6
    · have h42 : s < 42 := by have := hs.out; omega
      have hs0 : (0 : Int) ≤ s := by have := hs.out; omega
      have hs64 : s ≤ 64 := by omega
      cases l with
      | nil =>
        go_wp2_with fail
        refine (byte_none g _ hr.out).mono ?_
        rintro e w1 ⟨rfl, hr1, hg1⟩
        obtain ⟨A, c, h1, h2, h3, h4⟩ := hr1
        obtain ⟨c0, c1, z0, z1⟩ := h1.cells
        have hand : bits .and .u8 0 127 = 0 := by decide
        have hshl : Op.shift .shl .i64 0 .i64 s = pure (.int .i64 0) := by
          have := shl_at 0 i (by decide) h6
          rw [hs.out]
          simpa using this
        have hor : bits .or .i64 (n : Int) 0 = (n : Int) := by
          have := or_at n 0 i hn.out (by decide) h6
          simpa using this
        have HR1 := Lib.hid (RB.marked h1 h2 h3 h4 true)
        have HG1 := Lib.hid ((hg.out.trans hg1).trans (grown_set w1 g 1 (.bool true)))
        have HD := Lib.hid (show decU 0 0 bs = none by rw [hd.out, if_pos h6, decU])
        clear hg1 h1 h2 h3 h4 hd hl hr hg
        go_wp2_with fail
        all_goals
          go_ret
          refine ⟨⟨_, rfl, fun m rest e => ?_, fun _ => ⟨_, HR1.out⟩⟩, HG1.out⟩
          rw [HD.out] at e
          cases e
      | cons b l =>
        have hb := hl.out b List.mem_cons_self
        go_wp2_with fail
        refine (byte_some g b l _ hr.out).mono ?_
        rintro e w1 ⟨rfl, hr1, hg1⟩
        obtain ⟨x, hx⟩ : ∃ x : Nat, x = b % 128 := ⟨_, rfl⟩
        have hand : bits .and .u8 (b : Int) 127 = (x : Int) := by rw [hx]; exact bits_mask .u8 8 (by decide) wraps_u8 7 (by decide) (b : Int) (by omega) (by omega)
        obtain ⟨y, hy⟩ : ∃ y : Nat, y = n + x * 128 ^ i := ⟨_, rfl⟩
        have HO := Lib.hid (or_all2 n x i s hn.out (by omega) h6 hs.out)
        rw [← hy] at HO
        have HX := Lib.hid hx
        have HY := Lib.hid hy
        have HL := Lib.hid (show ∀ x ∈ l, x < 256 from fun x hx => hl.out x (List.mem_cons_of_mem _ hx))
        have HB2 := Lib.hid hb
        clear hx hy
        obtain ⟨A, c, h1, h2, h3, h4⟩ := hr1
        obtain ⟨c0, c1, z0, z1⟩ := h1.cells
        have HM := fun q => Lib.hid (RB.marked h1 h2 h3 h4 q)
        have HR1 := Lib.hid (show RB w1 g l false from ⟨A, c, h1, h2, h3, h4⟩)
        have HG1 := Lib.hid (hg.out.trans hg1)
        clear hg1 h1 h2 h3 h4 hl hr hg
        by_cases h128 : b < 128
        · have h128' : (b : Int) < 128 := by omega
          have HD := Lib.hid (show decU 0 0 bs = if (b = 0 ∧ 0 < i) ∨ y > 1099511627776 then none else some (y, l) by rw [hd.out, if_pos h6, decU, if_pos h128, HY.out, HX.out, Nat.mod_eq_of_lt h128])
          have FIN : Hid (∀ (q : Bool), (q = true ↔ (b = 0 ∧ 0 < i) ∨ y > 1099511627776) → (∃ n : Int, Ending.returned (.int .i64 (y : Int)) = .returned (.int .i64 n) ∧ (∀ m rest, decU 0 0 bs = some (m, rest) → n = (m : Int) ∧ RB (w1.setCell ⟨g, 1, none⟩ (.bool q)) g rest false) ∧ (decU 0 0 bs = none → ∃ rest, RB (w1.setCell ⟨g, 1, none⟩ (.bool q)) g rest true)) ∧ w.grownBy (w1.setCell ⟨g, 1, none⟩ (.bool q)) (some g)) := by
            intro q hq
            refine ⟨⟨_, rfl, fun m rest e => ?_, fun e => ?_⟩, HG1.out.trans (grown_set w1 g 1 _)⟩
            · rw [HD.out] at e
              split at e
              · cases e
              · rename_i hno
                injection e with e
                injection e with e1 e2
                subst e1 e2
                have : q = false := by
                  cases q
                  · rfl
                  · exact absurd (hq.1 rfl) hno
                subst this
                exact ⟨rfl, (HM false).out⟩
            · rw [HD.out] at e
              split at e
              · rename_i hyes
                rw [hq.2 hyes]
                exact ⟨_, (HM true).out⟩
              · cases e
          clear hd hb
          go_wp2_with fail
          all_goals
            go_ret
            rw [HO.out]
            refine FIN.out _ ?_
            have := hs.out
            simp
            omega
        · have h128' : ¬ (b : Int) < 128 := by omega
          have HD := Lib.hid (show decU 0 0 bs = if i + 1 < 6 then decU (i + 1) y l else none by rw [hd.out, if_pos h6, decU, if_neg h128, HY.out, HX.out, show b % 128 = b - 128 by omega])
          clear hb hd
          go_wp2_with fail
          case roundEnd =>
            refine ⟨⟨i + 1, y, l, s + 7, by omega, by rw [HO.out], by first | rfl | rw [w7 s hs0 hs64], Lib.hid (by rw [hs.out]; push_cast; omega), Lib.hid (step_lt n x i y HY.out hn.out (by have := HX.out; omega)), HD, HL, HR1, HG1⟩, ?_⟩
            try rw [w7 s hs0 hs64]
            simp only [iOf]
            omega
    · have h42 : ¬ s < 42 := by have := hs.out; omega
      obtain ⟨A, c, h1, h2, h3, h4⟩ := hr.out
      obtain ⟨c0, c1, z0, z1⟩ := h1.cells
      have HR1 := Lib.hid (RB.marked h1 h2 h3 h4 true)
      have HG1 := Lib.hid (hg.out.trans (grown_set wr g 1 (.bool true)))
      have HD := Lib.hid (show decU 0 0 bs = none by rw [hd.out, if_neg h6])
      clear h1 h2 h3 h4 hd hl hr hg hn hs
      go_wp2_with fail
      go_ret
      refine ⟨⟨0, rfl, fun m rest e => ?_, fun _ => ⟨_, HR1.out⟩⟩, HG1.out⟩
      rw [HD.out] at e
      cases e
end Go.Proofs.YtoddlefhlicfiaaGreatDoorR.RdrDev
