/- The walk of GfLists where the lists do not go together. -/
import Derived.Test.YtpogicakpgpkcaaGfL5
namespace Go.Proofs.Ytpogicakpgpkcaa.GfL
open Go.RowKit Go.Proofs.YtpogicakpgpkcaaW.PrintWords Go.Proofs.YtpogicakpgpkcaaW.PrintLast Go.Proofs.Ytpogicakpgpkcaa.Gf Go.Proofs.Ytpogicakpgpkcaa.PureL
theorem rd_none (w : World) : Kd.C (Kd.int .u8) w none 0 [] := Kd.C_of_reads (d := 0) ⟨rfl, by omega, fun h => absurd h (by omega)⟩
set_option maxHeartbeats 16000000 in
set_option maxRecDepth 100000 in
theorem Lists_bad (A0 : Option Addr) (n0 c0 : Nat) (x : List Nat) (A1 : Option Addr) (n1 c1 : Nat) (y : List Nat) (a : Nat) (w : World) (h0 : Kd.C (Kd.int .u8) w A0 n0 (NL x)) (hc0 : n0 ≤ c0) (h1 : Kd.C (Kd.int .u8) w A1 n1 (NL y)) (hc1 : n1 ≤ c1) (hw : why n0 n1 ≠ 0) (r0 : n0 ≤ 2000 ∨ (65536 < n0 ∧ n0 ≤ 70000)) (r1 : n1 ≤ 2000 ∨ (65536 < n1 ∧ n1 ≤ 70000)) :
    Calls Try.prog 4 #[.slice A0 n0 c0, .slice A1 n1 c1, .int .u8 (a : Int)] w fun e w' => e = .returned (.bool true) ∧ Below w.heap.size w w' := by
  have e0 : x.length = n0 := by have := h0.1; rwa [NL_len] at this
  have e1 : y.length = n1 := by have := h1.1; rwa [NL_len] at this
  have d1 := Dot_bad x y (by rw [e0, e1]; exact hw)
  have d2 := refDot_bad x y (by rw [e0, e1]; exact hw)
  have d3 := refAxpy_bad y x a (by rw [e0, e1]; exact hw)
  rw [e0, e1] at d1 d2 d3
  have HX := Lib.hid (show (NL x).length = n0 by rw [NL_len]; exact e0)
  have HY := Lib.hid (show (NL y).length = n1 by rw [NL_len]; exact e1)
  have HW := Lib.hid hw
  have H0 := Lib.hid h0
  have H1 := Lib.hid h1
  have d1 := Lib.hid d1
  have d2 := Lib.hid d2
  have d3 := Lib.hid d3
  clear hw h0 h1 e0 e1
  rcases r0 with r0 | ⟨r0, s0⟩ <;> rcases r1 with r1 | ⟨r1, s1⟩
  all_goals
      go_enter Try.func4, Try.ntmps4
      go_wp2_with fail
      refine (Lent_n A0 n0 c0 (NL x) _ (by exact H0.out) (by omega)).mono ?_
      rintro e w1 ⟨rfl, hp1, hb1⟩
      have P1 := Lib.hid hp1
      have Q1 := Lib.hid hb1
      clear hp1 hb1
      go_wp2_with fail
      refine (Lent_n A1 n1 c1 (NL y) _ (Kd.C_below H1.out Q1.out) (by omega)).mono ?_
      rintro e w2 ⟨rfl, hp2, hb2⟩
      have hlt := P1.out.lt
      have S2 := Lib.hid (St.mk (w := w) (below_two Q1.out hb2) (P1.out.below hb2 hlt) hp2 (Nat.le_refl _) Q1.out.size)
      clear hp2 hb2 hlt
      go_wp2_with fail
      refine (Axpy_bad_n _ n1 (n1 + 3) y _ n0 (n0 + 3) x _ (rd_lent S2.out.q HY.out (by omega)) (by omega) (rd_lent S2.out.p HX.out (by omega)) (by omega) (a : Int) HW.out).mono ?_
      rintro e w3 ⟨rfl, hb3⟩
      have S3 := Lib.hid (S2.out.next hb3)
      clear hb3
      go_wp2_with fail
      refine (refAxpy_n A1 n1 c1 y A0 n0 c0 x _ (Kd.C_below H1.out S3.out.bel) hc1 (Kd.C_below H0.out S3.out.bel) hc0 (a : Int) [] 0 rfl _ d3.out).mono ?_
      rintro e w4 ⟨Av, cv, rfl, hcv, hv, hb4⟩
      have V4 := Lib.hid hv
      have S4 := Lib.hid (S3.out.next hb4)
      clear hv hb4 S3
      go_wp2_with fail
      refine (Dot_n _ n0 (n0 + 3) x _ n1 (n1 + 3) y _ (rd_lent S4.out.p HX.out (by omega)) (by omega) (rd_lent S4.out.q HY.out (by omega)) (by omega) 0 _ d1.out).mono ?_
      rintro e w5 ⟨rfl, hd5⟩
      have V5 := Lib.hid (Kd.C_below V4.out hd5.below)
      have S5 := Lib.hid (S4.out.next hd5.below)
      clear hd5 S4 V4
      go_wp2_with fail
      refine (refDot_n A0 n0 c0 x A1 n1 c1 y _ (Kd.C_below H0.out S5.out.bel) hc0 (Kd.C_below H1.out S5.out.bel) hc1 0 _ d2.out).mono ?_
      rintro e w6 ⟨rfl, hd6⟩
      have V6 := Lib.hid (Kd.C_below V5.out hd6.below)
      have S6 := Lib.hid (S5.out.next hd6.below)
      clear hd6 S5 V5
      go_wp2_with fail
      refine (Same_calls none 0 0 [] _ 0 cv [] _ (rd_none _) (Nat.le_refl _) V6.out hcv rfl).mono ?_
      rintro e w7 ⟨rfl, hd7⟩
      have S7 := Lib.hid (S6.out.next hd7.below)
      clear hd7 S6 V6
      go_wp2_with fail
      refine (Kept_n _ A0 n0 c0 (NL x) _ S7.out.p (Kd.C_below H0.out S7.out.bel) (by omega)).mono ?_
      rintro e w8 ⟨rfl, hb8⟩
      have S8 := Lib.hid (S7.out.next hb8)
      clear hb8 S7
      go_wp2_with fail
      refine (Kept_n _ A1 n1 c1 (NL y) _ S8.out.q (Kd.C_below H1.out S8.out.bel) (by omega)).mono ?_
      rintro e w9 ⟨rfl, hb9⟩
      have S9 := Lib.hid (S8.out.next hb9)
      clear hb9 S8
      go_wp2_with fail
      refine (Over_nil _).mono ?_
      rintro e w10 ⟨⟨v10, rfl⟩, rfl⟩
      go_wp2_with fail
      refine (Kept_n _ A0 n0 c0 (NL x) _ S9.out.p (Kd.C_below H0.out S9.out.bel) (by omega)).mono ?_
      rintro e w11 ⟨rfl, hb11⟩
      have S11 := Lib.hid (S9.out.next hb11)
      clear hb11 S9
      go_wp2_with fail
      refine (Kept_n _ A1 n1 c1 (NL y) _ S11.out.q (Kd.C_below H1.out S11.out.bel) (by omega)).mono ?_
      rintro e w12 ⟨rfl, hb12⟩
      have S12 := Lib.hid (S11.out.next hb12)
      clear hb12 S11
      go_wp2_with fail
      refine (awake_calls _).mono ?_
      rintro e w13 ⟨rfl, hd13⟩
      have S13 := Lib.hid (S12.out.next hd13.below)
      clear hd13 S12
      go_wp2
      go_ret
      exact ⟨rfl, S13.out.bel⟩
end Go.Proofs.Ytpogicakpgpkcaa.GfL
