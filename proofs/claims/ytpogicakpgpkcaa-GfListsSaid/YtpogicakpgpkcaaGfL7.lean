/- The walk of GfLists where the lists go together. -/
import Derived.Test.YtpogicakpgpkcaaGfL5
namespace Go.Proofs.Ytpogicakpgpkcaa.GfL
open Go.RowKit Go.Proofs.YtpogicakpgpkcaaW.PrintWords Go.Proofs.YtpogicakpgpkcaaW.PrintLast Go.Proofs.Ytpogicakpgpkcaa.Gf Go.Proofs.Ytpogicakpgpkcaa.PureL

set_option maxHeartbeats 4000000 in
set_option maxRecDepth 100000 in
theorem Lists_good (A0 : Option Addr) (n c0 : Nat) (x : List Nat) (A1 : Option Addr) (c1 : Nat) (y : List Nat) (a : Nat) (w : World) (h0 : Kd.C (Kd.int .u8) w A0 n (NL x)) (hc0 : n ≤ c0) (h1 : Kd.C (Kd.int .u8) w A1 n (NL y)) (hc1 : n ≤ c1) (b0 : Bytes x) (b1 : Bytes y) (ha : a < 256) (hn : n ≤ 2000) :
    Calls Try.prog 4 #[.slice A0 n c0, .slice A1 n c1, .int .u8 (a : Int)] w fun e w' => e = .returned (.bool true) ∧ Below w.heap.size w w' := by
  have e0 : x.length = n := by have := h0.1; rwa [NL_len] at this
  have e1 : y.length = n := by have := h1.1; rwa [NL_len] at this
  have d1 := Lib.hid (Dot_is x y b0 b1 (by omega) (by omega))
  have d2 := Lib.hid (refDot_is x y b0 b1 (by omega) (by omega))
  have d3 := Lib.hid (refAxpy_is y x a ha b1 b0 (by omega) (by omega))
  have HX := Lib.hid (show (NL x).length = n by rw [NL_len]; exact e0)
  have HY := Lib.hid (show (NL y).length = n by rw [NL_len]; exact e1)
  have HS := Lib.hid (show (NL (axS y x a)).length = n by rw [NL_len, axS_len a (by omega)]; exact e1)
  have H0 := Lib.hid h0
  have H1 := Lib.hid h1
  have B0 := Lib.hid b0
  have B1 := Lib.hid b1
  clear h0 h1 e0 e1 b0 b1
  go_enter Try.func4, Try.ntmps4
  go_wp2_with fail
  refine (Lent_n A0 n c0 (NL x) _ (by exact H0.out) (by omega)).mono ?_
  rintro e w1 ⟨rfl, hp1, hb1⟩
  have P1 := Lib.hid hp1
  have Q1 := Lib.hid hb1
  clear hp1 hb1
  go_wp2_with fail
  refine (Lent_n A1 n c1 (NL y) _ (Kd.C_below H1.out Q1.out) (by omega)).mono ?_
  rintro e w2 ⟨rfl, hp2, hb2⟩
  have hlt := P1.out.lt
  have S2 := Lib.hid (St.mk (w := w) (below_two Q1.out hb2) (P1.out.below hb2 hlt) hp2 (Nat.le_refl _) Q1.out.size)
  clear hp2 hb2 hlt
  have hq2 := Lib.hid S2.out.q.lt
  have hp2 := Lib.hid S2.out.p.lt
  go_wp2_with fail
  refine (Axpy_good _ n (n + 3) y _ (n + 3) x a _ (rd_lent S2.out.q HY.out (by omega)) (by omega) (rd_lent S2.out.p HX.out (by omega)) (by omega) (by omega) B1.out B0.out ha).mono ?_
  rintro e w3 ⟨rfl, hu, hb3⟩
  have U3 := Lib.hid hu
  have S3 := Lib.hid (S2.out.next hb3)
  clear hu hb3
  go_wp2_with fail
  refine (refAxpy_n A1 n c1 y A0 n c0 x _ (Kd.C_below H1.out S3.out.bel) hc1 (Kd.C_below H0.out S3.out.bel) hc0 (a : Int) _ n HS.out 0 d3.out).mono ?_
  rintro e w4 ⟨Av, cv, rfl, hcv, hv, hb4⟩
  have V4 := Lib.hid hv
  have U4 := Lib.hid (U3.out.below hb4 U3.out.lt)
  have S4 := Lib.hid (S3.out.next hb4)
  clear hv hb4 S3 U3
  go_wp2_with fail
  refine (Dot_n _ n (n + 3) x _ n (n + 3) y _ (rd_lent S4.out.p HX.out (by omega)) (by omega) (rd_lent S4.out.q HY.out (by omega)) (by omega) _ 0 d1.out).mono ?_
  rintro e w5 ⟨rfl, hd5⟩
  have V5 := Lib.hid (Kd.C_below V4.out hd5.below)
  have U5 := Lib.hid (U4.out.below hd5.below U4.out.lt)
  have S5 := Lib.hid (S4.out.next hd5.below)
  clear hd5 S4 U4 V4
  go_wp2_with fail
  refine (refDot_n A0 n c0 x A1 n c1 y _ (Kd.C_below H0.out S5.out.bel) hc0 (Kd.C_below H1.out S5.out.bel) hc1 _ 0 d2.out).mono ?_
  rintro e w6 ⟨rfl, hd6⟩
  have V6 := Lib.hid (Kd.C_below V5.out hd6.below)
  have U6 := Lib.hid (U5.out.below hd6.below U5.out.lt)
  have S6 := Lib.hid (S5.out.next hd6.below)
  clear hd6 S5 U5 V5
  go_wp2_with fail
  refine (Same_calls _ n n _ _ n cv _ _ (rd_blk U6.out HS.out (by omega)) (Nat.le_refl _) V6.out hcv rfl).mono ?_
  rintro e w7 ⟨rfl, hd7⟩
  have U7 := Lib.hid (U6.out.below hd7.below U6.out.lt)
  have S7 := Lib.hid (S6.out.next hd7.below)
  clear hd7 S6 U6 V6
  go_wp2_with fail
  refine (Kept_n _ A0 n c0 (NL x) _ S7.out.p (Kd.C_below H0.out S7.out.bel) (by omega)).mono ?_
  rintro e w8 ⟨rfl, hb8⟩
  have U8 := Lib.hid (U7.out.below hb8 U7.out.lt)
  have S8 := Lib.hid (S7.out.next hb8)
  clear hb8 S7 U7
  go_wp2_with fail
  refine (Kept_n _ A1 n c1 (NL y) _ S8.out.q (Kd.C_below H1.out S8.out.bel) (by omega)).mono ?_
  rintro e w9 ⟨rfl, hb9⟩
  have U9 := Lib.hid (U8.out.below hb9 U8.out.lt)
  have S9 := Lib.hid (S8.out.next hb9)
  clear hb9 S8 U8
  go_wp2_with fail
  refine (Over_n _ n _ _ U9.out HS.out (by omega)).mono ?_
  rintro e w10 ⟨⟨v10, rfl⟩, hg10⟩
  have S10 := Lib.hid (S9.out.over hg10 S2.out.bel.size (Nat.ne_of_gt hp2.out) (Nat.ne_of_gt hq2.out))
  clear hg10 S9 U9
  go_wp2_with fail
  refine (Kept_n _ A0 n c0 (NL x) _ S10.out.p (Kd.C_below H0.out S10.out.bel) (by omega)).mono ?_
  rintro e w11 ⟨rfl, hb11⟩
  have S11 := Lib.hid (S10.out.next hb11)
  clear hb11 S10
  go_wp2_with fail
  refine (Kept_n _ A1 n c1 (NL y) _ S11.out.q (Kd.C_below H1.out S11.out.bel) (by omega)).mono ?_
  rintro e w12 ⟨rfl, hb12⟩
  have S12 := Lib.hid (S11.out.next hb12)
  clear hb12 S11
  go_wp2_with fail
  refine (awake_calls _).mono ?_
  rintro e w13 ⟨rfl, hd13⟩
  have S13 := Lib.hid (S12.out.next hd13.below)
  clear hd13 S12
  go_wp2
  go_ret
  exact ⟨rfl, S13.out.bel⟩
end Go.Proofs.Ytpogicakpgpkcaa.GfL
