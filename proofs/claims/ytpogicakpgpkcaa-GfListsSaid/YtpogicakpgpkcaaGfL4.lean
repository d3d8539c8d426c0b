/- What the printed functions of GfLists come to, at lists of bytes. -/
import Derived.Test.YtpogicakpgpkcaaHGfListsx2
import Derived.Test.YtpogicakpgpkcaaGfL3
namespace Go.Proofs.Ytpogicakpgpkcaa.PureL
open Go.RowKit Go.Proofs.Ytpogicakpgpkcaa.PGfLists Go.Proofs.YtpogicakpgpkcaaW.PrintWords Go.Proofs.YtpogicakpgpkcaaW.PrintLast Go.Proofs.Ytpogicakpgpkcaa.Gf Go.Proofs.Ytpogicakpgpkcaa.GfL
theorem twice_is (a : Nat) (h : a < 256) : gf_twice.f (a : Int) = some ((tw a : Nat) : Int) := by
  unfold gf_twice.f; rw [tw_u8 a h]
theorem Mul_l0 : ∀ (n k a b p : Nat), b < 2 ^ n → n < k → n ≤ 8 → a < 256 → p < 256 → gf_Mul.l0 k (a : Int) (b : Int) (p : Int) = some ((mulL n a b p : Nat) : Int)
  | 0, k, a, b, p, hb, hk, _, _, _ => by
    obtain ⟨k, rfl⟩ : ∃ m, k = m + 1 := ⟨k - 1, by omega⟩
    have hb0 : b = 0 := by have : b < 1 := hb; omega
    subst hb0
    simp only [gf_Mul.l0]; rw [if_pos (by omega)]; rfl
  | n + 1, k, a, b, p, hb, hk, hn, ha, hp => by
    obtain ⟨k, rfl⟩ : ∃ m, k = m + 1 := ⟨k - 1, by omega⟩
    simp only [gf_Mul.l0]
    have hb8 : b < 256 := Nat.lt_of_lt_of_le hb (Nat.pow_le_pow_right (n := 2) (by omega) (by omega : n + 1 ≤ 8))
    by_cases h0 : b = 0
    · subst h0
      rw [if_pos (by omega), mulL_zero_b]
    · rw [if_neg (by omega), twice_is a ha, Option.bind_some, half, pick_u8 a b ha hb8, xor_u8 p _ hp (sel_lt ha _)]
      exact Mul_l0 n k _ _ _ (by rw [Nat.pow_succ] at hb; omega) (by omega) (by omega) (tw_lt ha) (xor_lt hp (sel_lt ha _))
theorem Mul_is (k a b : Nat) (hk : 9 ≤ k) (ha : a < 256) (hb : b < 256) : gf_Mul.f k (a : Int) (b : Int) = some ((mul a b : Nat) : Int) :=
  Mul_l0 8 k a b 0 hb (by omega) (by omega) ha (by omega)
theorem power_l0 : ∀ (n k a b p : Nat), b < 2 ^ n → n + 9 < k → n ≤ 40 → a < 256 → p < 256 → gf_power.l0 k (a : Int) (b : Int) (p : Int) = some ((mul p (pw a b) : Nat) : Int)
  | 0, k, a, b, p, hb, hk, _, _, hp => by
    obtain ⟨k, rfl⟩ : ∃ m, k = m + 1 := ⟨k - 1, by omega⟩
    have hb0 : b = 0 := by have : b < 1 := hb; omega
    subst hb0
    simp only [gf_power.l0]; rw [if_pos (by omega)]
    show _ = some ((mul p 1 : Nat) : Int)
    rw [mul_one_right hp]
  | n + 1, k, a, b, p, hb, hk, hn, ha, hp => by
    obtain ⟨k, rfl⟩ : ∃ m, k = m + 1 := ⟨k - 1, by omega⟩
    simp only [gf_power.l0]
    have hb8 : b < 2 ^ 40 := Nat.lt_of_lt_of_le hb (Nat.pow_le_pow_right (n := 2) (by omega) (by omega))
    have hh : b / 2 < 2 ^ n := by rw [Nat.pow_succ] at hb; omega
    by_cases h0 : b = 0
    · subst h0
      rw [if_pos (by omega)]
      show _ = some ((mul p 1 : Nat) : Int)
      rw [mul_one_right hp]
    · rw [if_neg (by omega), one_u64 b hb8, half]
      by_cases h1 : b % 2 = 1
      · rw [h1, if_pos (by rfl), Mul_is k p a (by omega) hp ha, Option.bind_some, Mul_is k a a (by omega) ha ha, Option.bind_some]
        rw [power_l0 n k _ _ _ hh (by omega) (by omega) (mul_lt _ ha) (mul_lt _ hp), pw_sq ha, mul_assoc hp ha (pw_lt ha _)]
        have e : mul a (pw a (2 * (b / 2))) = pw a b := by
          have : b = 1 + 2 * (b / 2) := by omega
          conv => rhs; rw [this, pw_add ha]
          congr 1
          show a = mul 1 a
          rw [mul_one_left ha]
        rw [e]
      · have h2 : b % 2 = 0 := by omega
        rw [h2, if_neg (by decide), Mul_is k a a (by omega) ha ha, Option.bind_some]
        rw [power_l0 n k _ _ _ hh (by omega) (by omega) (mul_lt _ ha) hp, pw_sq ha]
        have e : 2 * (b / 2) = b := by omega
        rw [e]
theorem power_is (k a b : Nat) (hk : 50 ≤ k) (ha : a < 256) (hb : b < 2 ^ 40) : gf_power.f k (a : Int) (b : Int) = some ((pw a b : Nat) : Int) := by
  have := power_l0 40 k a b 1 hb (by omega) (by omega) ha (by omega)
  rw [mul_one_left (pw_lt ha _)] at this
  exact this
theorem Inv_is (k a : Nat) (hk : 50 ≤ k) (ha : a < 256) : gf_Inv.f k (a : Int) = some (if a = 0 then (0, 5) else (((pw a 254 : Nat) : Int), 0)) := by
  unfold gf_Inv.f
  by_cases h : a = 0
  · rw [if_pos (by omega), if_pos h]
  · rw [if_neg (by omega), if_neg h]
    have := power_is k a 254 hk ha (by omega)
    simp only [Int.cast_ofNat_Int] at this
    rw [this]; rfl
theorem awake_is (k : Nat) (hk : 50 ≤ k) : stowagelaw01_awake.f k = some true := by
  unfold stowagelaw01_awake.f
  have h1 := Inv_is k 2 hk (by omega)
  have h2 := Mul_is k 128 2 (by omega) (by omega) (by omega)
  have h3 := Mul_is k 255 255 (by omega) (by omega) (by omega)
  have e1 : pw 2 254 = 142 := by decide +kernel
  have e2 : mul 128 2 = 29 := by decide +kernel
  have e3 : mul 255 255 = 226 := by decide +kernel
  rw [e1, if_neg (by omega)] at h1
  rw [e2] at h2
  rw [e3] at h3
  simp only [Int.cast_ofNat_Int] at h1 h2 h3
  rw [h1, h2, h3]; rfl
theorem refMul_l1 : ∀ (n k x : Nat), x < 2 ^ 16 → n ≤ 7 → n < k → stowageref01_Mul.l1 k (x : Int) ((n : Int) + 7) = some ((red n x % 256 : Nat) : Int)
  | 0, k, x, hx, _, hk => by
    obtain ⟨k, rfl⟩ : ∃ m, k = m + 1 := ⟨k - 1, by omega⟩
    simp only [stowageref01_Mul.l1]
    rw [if_neg (by omega)]; congr 1
  | n + 1, k, x, hx, hn, hk => by
    obtain ⟨k, rfl⟩ : ∃ m, k = m + 1 := ⟨k - 1, by omega⟩
    simp only [stowageref01_Mul.l1]
    have e : (((n + 1 : Nat) : Int) + 7) = ((n + 8 : Nat) : Int) := by omega
    have e8 : wrap64 (((n + 8 : Nat) : Int) - 8) = (n : Int) := by rw [wrap64_small _ (by omega) (by omega)]; omega
    have e1 : wrap64 (((n + 8 : Nat) : Int) - 1) = (n : Int) + 7 := by rw [wrap64_small _ (by omega) (by omega)]; omega
    rw [e, if_pos (by omega), if_pos (by omega), bit_i64 x (n + 8) (by omega) (by omega), e8, e1]
    have hp : 285 * 2 ^ n < 2 ^ 16 := by
      have : 2 ^ n ≤ 2 ^ 6 := Nat.pow_le_pow_right (by omega) (by omega)
      omega
    have hs : shl .i64 285 (n : Int) = ((285 * 2 ^ n : Nat) : Int) := shl_i64 285 n (by omega) (by omega)
    show _ = some ((red n (if x.testBit (n + 8) then x ^^^ (285 * 2 ^ n) else x) % 256 : Nat) : Int)
    by_cases hb : x.testBit (n + 8) = true
    · rw [(testBit_iff x (n + 8)).2 hb, if_pos (by rfl), if_pos (by omega), hs, xor_i64 x _ (by omega) (by omega), if_pos hb]
      exact refMul_l1 n k _ (Nat.xor_lt_two_pow hx hp) (by omega) (by omega)
    · have h0 : x / 2 ^ (n + 8) % 2 = 0 := by
        have := mt (testBit_iff x (n + 8)).1 hb
        omega
      rw [h0, if_neg (by decide), if_neg hb]
      exact refMul_l1 n k x hx (by omega) (by omega)
theorem cm_sel (n a b x : Nat) : cm (n + 1) a b x = cm n (a * 2) (b / 2) (if b % 2 = 1 then x ^^^ a else x) := rfl
theorem refMul_l0 : ∀ (n i k a b x : Nat), i + n = 8 → a < 256 → b < 256 → x < 2 ^ (8 + i) → n + 9 < k → stowageref01_Mul.l0 k (a : Int) (b : Int) (x : Int) (i : Int) = some ((red 7 (cm n (a * 2 ^ i) (b / 2 ^ i) x) % 256 : Nat) : Int)
  | 0, i, k, a, b, x, hi, _, _, hx, hk => by
    obtain ⟨k, rfl⟩ : ∃ m, k = m + 1 := ⟨k - 1, by omega⟩
    simp only [stowageref01_Mul.l0]
    have : i = 8 := by omega
    subst this
    rw [if_neg (by omega)]
    exact refMul_l1 7 k x (by omega) (by omega) (by omega)
  | n + 1, i, k, a, b, x, hi, ha, hb, hx, hk => by
    obtain ⟨k, rfl⟩ : ∃ m, k = m + 1 := ⟨k - 1, by omega⟩
    simp only [stowageref01_Mul.l0]
    have h8 : 2 ^ (8 + i) ≤ 2 ^ 16 := Nat.pow_le_pow_right (by omega) (by omega)
    have hp : a * 2 ^ i < 2 ^ (8 + i) := by
      rw [Nat.pow_add]
      exact Nat.mul_lt_mul_of_pos_right ha (Nat.two_pow_pos i)
    have ew : wrap64 ((i : Int) + 1) = ((i + 1 : Nat) : Int) := by rw [wrap64_small _ (by omega) (by omega)]; omega
    have ea : wrap64 (a : Int) = (a : Int) := wrap64_small _ (by omega) (by omega)
    rw [if_pos (by omega), if_pos (by omega), bit_u8 b i hb (by omega), ew, ea, shl_i64 a i (by omega) (by omega), cm_sel]
    have e1 : a * 2 ^ i * 2 = a * 2 ^ (i + 1) := by rw [Nat.pow_succ, Nat.mul_assoc]
    have e2 : b / 2 ^ i / 2 = b / 2 ^ (i + 1) := by rw [Nat.div_div_eq_div_mul, Nat.pow_succ]
    have hm : 2 ^ (8 + i) ≤ 2 ^ (8 + (i + 1)) := Nat.pow_le_pow_right (by omega) (by omega)
    rw [e1, e2]
    by_cases hbit : b / 2 ^ i % 2 = 1
    · rw [hbit, if_pos (by rfl), if_pos (by rfl), xor_i64 x _ (by omega) (by omega)]
      exact refMul_l0 n (i + 1) k a b _ (by omega) ha hb (Nat.lt_of_lt_of_le (Nat.xor_lt_two_pow hx hp) hm) (by omega)
    · have h0 : b / 2 ^ i % 2 = 0 := by omega
      rw [h0, if_neg (by decide), if_neg (by decide)]
      exact refMul_l0 n (i + 1) k a b _ (by omega) ha hb (by omega) (by omega)
theorem refMul_is (k a b : Nat) (hk : 18 ≤ k) (ha : a < 256) (hb : b < 256) : stowageref01_Mul.f k (a : Int) (b : Int) = some ((mul a b : Nat) : Int) := by
  have := refMul_l0 8 0 k a b 0 (by omega) ha hb (by omega) (by omega)
  rw [Nat.pow_zero, Nat.mul_one, Nat.div_one, cm_mul b ha] at this
  exact this

/-! ### Lists -/
theorem pair_is (k : Nat) (l0 l1 : List Int) (hk : 1 ≤ k) : gf_pair.f k l0 l1 = some (if l0.length > 65536 ∨ l1.length > 65536 then 3 else if l0.length = l1.length then 0 else 2) := by
  obtain ⟨k, rfl⟩ : ∃ m, k = m + 1 := ⟨k - 1, by omega⟩
  unfold gf_pair.f
  simp only [gf_pair.j0]
  by_cases h0 : l0.length > 65536
  · rw [if_pos (by omega), if_true, if_pos (Or.inl h0)]
  · rw [if_neg (by omega)]
    by_cases h1 : l1.length > 65536
    · rw [if_pos (by simp; omega), if_pos (Or.inr h1)]
    · rw [if_neg (by simp; omega), if_neg (show ¬ (l0.length > 65536 ∨ l1.length > 65536) by omega)]
      by_cases h : l0.length = l1.length
      · rw [if_pos (by omega), if_pos h]
      · rw [if_neg (by omega), if_neg h]
theorem wrong_is (k : Nat) (l0 l1 : List Int) (hk : 1 ≤ k) : stowageref01_wrong.f k l0 l1 = some (if l0.length > 65536 ∨ l1.length > 65536 then 3 else if l0.length = l1.length then 0 else 2) := by
  obtain ⟨k, rfl⟩ : ∃ m, k = m + 1 := ⟨k - 1, by omega⟩
  unfold stowageref01_wrong.f
  simp only [stowageref01_wrong.j0]
  by_cases h0 : l0.length > 65536
  · rw [if_pos (by omega), if_true, if_pos (Or.inl h0)]
  · rw [if_neg (by omega)]
    by_cases h1 : l1.length > 65536
    · rw [if_pos (by simp; omega), if_pos (Or.inr h1)]
    · rw [if_neg (by simp; omega), if_neg (show ¬ (l0.length > 65536 ∨ l1.length > 65536) by omega)]
      by_cases h : l0.length = l1.length
      · rw [if_pos (by omega), if_pos h]
      · rw [if_neg (by omega), if_neg h]
/-- The sum of products, from a sum on. -/
def dotF : List Nat → List Nat → Nat → Nat
  | x :: xs, y :: ys, s => dotF xs ys (s ^^^ mul x y)
  | _, _, s => s
theorem drop_at {l : List Nat} {i : Nat} (h : i < l.length) : l.drop i = l.getD i 0 :: l.drop (i + 1) := by
  rw [List.drop_eq_getElem_cons h]
  congr 1
  simp [List.getD, h]
theorem Dot_l0 (x y : List Nat) (hb : Bytes x) (hc : Bytes y) (hl : x.length = y.length) (hm : x.length ≤ 65536) : ∀ (n k i s : Nat), i + n = x.length → n + 9 < k → s < 256 → gf_Dot.l0 k (NL y) (s : Int) (NL x) ((x.length : Nat) : Int) (i : Int) = some (((dotF (x.drop i) (y.drop i) s : Nat) : Int), 0)
  | 0, k, i, s, hi, hk, _ => by
    obtain ⟨k, rfl⟩ : ∃ m, k = m + 1 := ⟨k - 1, by omega⟩
    simp only [gf_Dot.l0]
    rw [if_neg (by omega), List.drop_of_length_le (by omega)]
    rfl
  | n + 1, k, i, s, hi, hk, hs => by
    obtain ⟨k, rfl⟩ : ∃ m, k = m + 1 := ⟨k - 1, by omega⟩
    simp only [gf_Dot.l0]
    have ew : wrap64 ((i : Int) + 1) = ((i + 1 : Nat) : Int) := by rw [wrap64_small _ (by omega) (by omega)]; omega
    rw [if_pos (by omega), if_pos (by omega), if_pos (by rw [NL_len]; omega), if_pos (by rw [NL_len]; omega), rd_NL, rd_NL, Mul_is k _ _ (by omega) (hb.get i) (hc.get i), Option.bind_some, xor_u8 s _ hs (mul_lt _ (hb.get i)), ew]
    rw [Dot_l0 x y hb hc hl hm n k (i + 1) _ (by omega) (by omega) (xor_lt hs (mul_lt _ (hb.get i))), drop_at (l := x) (i := i) (by omega), drop_at (l := y) (i := i) (by omega)]
    rfl
theorem Dot_is (x y : List Nat) (hb : Bytes x) (hc : Bytes y) (hl : x.length = y.length) (hm : x.length ≤ 65536) : ∃ k, gf_Dot.f k (NL x) (NL y) = some (((dotF x y 0 : Nat) : Int), 0) := by
  refine ⟨x.length + 20, ?_⟩
  unfold gf_Dot.f
  rw [pair_is _ _ _ (by omega), Option.bind_some, NL_len, NL_len, if_neg (show ¬ (x.length > 65536 ∨ y.length > 65536) by omega), if_pos hl, if_pos rfl, if_pos (by omega), if_pos (by omega), Int.toNat_natCast]
  have : (NL y).take x.length = NL y := List.take_of_length_le (by rw [NL_len]; omega)
  rw [this]
  exact Dot_l0 x y hb hc hl hm x.length _ 0 0 (by omega) (by omega) (by omega)
theorem refDot_l0 (x y : List Nat) (hb : Bytes x) (hc : Bytes y) (hl : x.length = y.length) (hm : x.length ≤ 65536) : ∀ (n k i s : Nat), i + n = x.length → n + 18 < k → s < 256 → stowageref01_Dot.l0 k (NL x) (NL y) (s : Int) (i : Int) = some (((dotF (x.drop i) (y.drop i) s : Nat) : Int), 0)
  | 0, k, i, s, hi, hk, _ => by
    obtain ⟨k, rfl⟩ : ∃ m, k = m + 1 := ⟨k - 1, by omega⟩
    simp only [stowageref01_Dot.l0]
    rw [if_neg (by rw [NL_len]; omega), List.drop_of_length_le (by omega)]
    rfl
  | n + 1, k, i, s, hi, hk, hs => by
    obtain ⟨k, rfl⟩ : ∃ m, k = m + 1 := ⟨k - 1, by omega⟩
    simp only [stowageref01_Dot.l0]
    have ew : wrap64 ((i : Int) + 1) = ((i + 1 : Nat) : Int) := by rw [wrap64_small _ (by omega) (by omega)]; omega
    rw [if_pos (by rw [NL_len]; omega), if_pos (by omega), if_pos (by rw [NL_len]; omega), rd_NL, rd_NL, refMul_is k _ _ (by omega) (hb.get i) (hc.get i), Option.bind_some, xor_u8 s _ hs (mul_lt _ (hb.get i)), ew]
    rw [refDot_l0 x y hb hc hl hm n k (i + 1) _ (by omega) (by omega) (xor_lt hs (mul_lt _ (hb.get i))), drop_at (l := x) (i := i) (by omega), drop_at (l := y) (i := i) (by omega)]
    rfl
theorem refDot_is (x y : List Nat) (hb : Bytes x) (hc : Bytes y) (hl : x.length = y.length) (hm : x.length ≤ 65536) : ∃ k, stowageref01_Dot.f k (NL x) (NL y) = some (((dotF x y 0 : Nat) : Int), 0) := by
  refine ⟨x.length + 20, ?_⟩
  unfold stowageref01_Dot.f
  rw [wrong_is _ _ _ (by omega), Option.bind_some, NL_len, NL_len, if_neg (show ¬ (x.length > 65536 ∨ y.length > 65536) by omega), if_pos hl, if_pos rfl]
  exact refDot_l0 x y hb hc hl hm x.length _ 0 0 (by omega) (by omega) (by omega)
theorem take_step (s : List Nat) (i v : Nat) (h : s[i]? = some v) : NL (s.take i) ++ [(v : Int)] = NL (s.take (i + 1)) := by
  rw [List.take_add_one, h]
  simp [NL]
theorem refAxpy_l0 (y x : List Nat) (a : Nat) (ha : a < 256) (hb : Bytes y) (hc : Bytes x) (hl : y.length = x.length) (hm : x.length ≤ 65536) : ∀ (n k i : Nat), i + n = x.length → n + 18 < k → stowageref01_Axpy.l0 k (NL y) (NL x) (a : Int) (NL ((axS y x a).take i)) (i : Int) = some (NL (axS y x a), 0)
  | 0, k, i, hi, hk => by
    obtain ⟨k, rfl⟩ : ∃ m, k = m + 1 := ⟨k - 1, by omega⟩
    simp only [stowageref01_Axpy.l0]
    rw [if_neg (by rw [NL_len]; omega), List.take_of_length_le (by rw [axS_len a hl]; omega)]
  | n + 1, k, i, hi, hk => by
    obtain ⟨k, rfl⟩ : ∃ m, k = m + 1 := ⟨k - 1, by omega⟩
    simp only [stowageref01_Axpy.l0]
    have ew : wrap64 ((i : Int) + 1) = ((i + 1 : Nat) : Int) := by rw [wrap64_small _ (by omega) (by omega)]; omega
    rw [if_pos (by rw [NL_len]; omega), if_pos (by omega), if_pos (by rw [NL_len]; omega), rd_NL, rd_NL, refMul_is k _ _ (by omega) ha (hc.get i), Option.bind_some, xor_u8 _ _ (hb.get i) (mul_lt _ ha), ew]
    rw [if_pos (by rw [NL_len, List.length_take]; omega), take_step _ _ _ (axS_get a hl i (by omega))]
    exact refAxpy_l0 y x a ha hb hc hl hm n k (i + 1) (by omega) (by omega)
theorem refAxpy_is (y x : List Nat) (a : Nat) (ha : a < 256) (hb : Bytes y) (hc : Bytes x) (hl : y.length = x.length) (hm : x.length ≤ 65536) : ∃ k, stowageref01_Axpy.f k (NL y) (NL x) (a : Int) = some (NL (axS y x a), 0) := by
  refine ⟨x.length + 20, ?_⟩
  unfold stowageref01_Axpy.f
  rw [wrong_is _ _ _ (by omega), Option.bind_some, NL_len, NL_len, if_neg (show ¬ (x.length > 65536 ∨ y.length > 65536) by omega), if_pos hl.symm, if_pos rfl]
  exact refAxpy_l0 y x a ha hb hc hl hm x.length _ 0 (by omega) (by omega)
/-- Why two lists may not go together. -/
def why (n m : Nat) : Int := if n > 65536 ∨ m > 65536 then 3 else if n = m then 0 else 2
theorem Dot_bad (x y : List Nat) (h : why x.length y.length ≠ 0) : ∃ k, gf_Dot.f k (NL x) (NL y) = some (0, why x.length y.length) := by
  refine ⟨1, ?_⟩
  unfold gf_Dot.f
  rw [pair_is _ _ _ (by omega), Option.bind_some, NL_len, NL_len]
  unfold why at h ⊢
  rw [if_neg h]
theorem refDot_bad (x y : List Nat) (h : why x.length y.length ≠ 0) : ∃ k, stowageref01_Dot.f k (NL x) (NL y) = some (0, why x.length y.length) := by
  refine ⟨1, ?_⟩
  unfold stowageref01_Dot.f
  rw [wrong_is _ _ _ (by omega), Option.bind_some, NL_len, NL_len]
  unfold why at h ⊢
  rw [if_neg h]
theorem refAxpy_bad (y x : List Nat) (a : Nat) (h : why x.length y.length ≠ 0) : ∃ k, stowageref01_Axpy.f k (NL y) (NL x) (a : Int) = some ([], why x.length y.length) := by
  refine ⟨1, ?_⟩
  unfold stowageref01_Axpy.f
  rw [wrong_is _ _ _ (by omega), Option.bind_some, NL_len, NL_len]
  unfold why at h ⊢
  rw [if_neg h]
end Go.Proofs.Ytpogicakpgpkcaa.PureL
