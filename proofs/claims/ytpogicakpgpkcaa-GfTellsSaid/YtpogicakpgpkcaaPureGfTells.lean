/- The statement GfTells: for every two bytes and every exponent the sums, products, inverses, quotients, powers and logs of the program are those of the reference. No conditions. -/
import Derived.Test.YtpogicakpgpkcaaPGfTellsx2
import Derived.Test.YtpogicakpgpkcaaGfBits
namespace Go.Proofs.Ytpogicakpgpkcaa.Pure
open Go.RowKit Go.Proofs.Ytpogicakpgpkcaa.PGfTells Go.Proofs.YtpogicakpgpkcaaW.PrintWords Go.Proofs.YtpogicakpgpkcaaW.PrintLast Go.Proofs.Ytpogicakpgpkcaa.Gf

/-! ### What the printed functions come to -/
theorem at_le {α : Type} {g : Nat → Option α} (h : ∀ k, LeO (g k) (g (k + 1))) {k : Nat} {r : α} (hr : g k = some r) : Ev g r := Ev.of h hr
theorem twice_is (a : Nat) (h : a < 256) : gf_twice.f (a : Int) = some ((tw a : Nat) : Int) := by
  unfold gf_twice.f; rw [tw_u8 a h]
theorem Mul_l0 : ∀ (n k a b p : Nat), b < 2 ^ n → n < k → n ≤ 8 → a < 256 → p < 256 → gf_Mul.l0 k (a : Int) (b : Int) (p : Int) = some ((mulL n a b p : Nat) : Int)
  | 0, k, a, b, p, hb, hk, _, _, _ => by
    obtain ⟨k, rfl⟩ : ∃ m, k = m + 1 := ⟨k - 1, by omega⟩
    have hb0 : b = 0 := by have : b < 1 := hb; omega
    subst hb0
    simp only [gf_Mul.l0]; rw [if_pos (by omega)]; rfl
  | n + 1, k, a, b, p, hb, hk, hn, ha, hp => by
    obtain ⟨k, rfl⟩ : ∃ m, k = m + 1 := ⟨k - 1, by omega⟩
    simp only [gf_Mul.l0]
    have hb8 : b < 256 := Nat.lt_of_lt_of_le hb (Nat.pow_le_pow_right (n := 2) (by omega) (by omega : n + 1 ≤ 8))
    by_cases h0 : b = 0
    · subst h0
      rw [if_pos (by omega), mulL_zero_b]
    · rw [if_neg (by omega), twice_is a ha, Option.bind_some, half, pick_u8 a b ha hb8, xor_u8 p _ hp (sel_lt ha _)]
      exact Mul_l0 n k _ _ _ (by rw [Nat.pow_succ] at hb; omega) (by omega) (by omega) (tw_lt ha) (xor_lt hp (sel_lt ha _))
theorem Mul_is (k a b : Nat) (hk : 9 ≤ k) (ha : a < 256) (hb : b < 256) : gf_Mul.f k (a : Int) (b : Int) = some ((mul a b : Nat) : Int) :=
  Mul_l0 8 k a b 0 hb (by omega) (by omega) ha (by omega)
theorem power_l0 : ∀ (n k a b p : Nat), b < 2 ^ n → n + 9 < k → n ≤ 40 → a < 256 → p < 256 → gf_power.l0 k (a : Int) (b : Int) (p : Int) = some ((mul p (pw a b) : Nat) : Int)
  | 0, k, a, b, p, hb, hk, _, _, hp => by
    obtain ⟨k, rfl⟩ : ∃ m, k = m + 1 := ⟨k - 1, by omega⟩
    have hb0 : b = 0 := by have : b < 1 := hb; omega
    subst hb0
    simp only [gf_power.l0]; rw [if_pos (by omega)]
    show _ = some ((mul p 1 : Nat) : Int)
    rw [mul_one_right hp]
  | n + 1, k, a, b, p, hb, hk, hn, ha, hp => by
    obtain ⟨k, rfl⟩ : ∃ m, k = m + 1 := ⟨k - 1, by omega⟩
    simp only [gf_power.l0]
    have hb8 : b < 2 ^ 40 := Nat.lt_of_lt_of_le hb (Nat.pow_le_pow_right (n := 2) (by omega) (by omega))
    have hh : b / 2 < 2 ^ n := by rw [Nat.pow_succ] at hb; omega
    by_cases h0 : b = 0
    · subst h0
      rw [if_pos (by omega)]
      show _ = some ((mul p 1 : Nat) : Int)
      rw [mul_one_right hp]
    · rw [if_neg (by omega), one_u64 b hb8, half]
      by_cases h1 : b % 2 = 1
      · rw [h1, if_pos (by rfl), Mul_is k p a (by omega) hp ha, Option.bind_some, Mul_is k a a (by omega) ha ha, Option.bind_some]
        rw [power_l0 n k _ _ _ hh (by omega) (by omega) (mul_lt _ ha) (mul_lt _ hp), pw_sq ha, mul_assoc hp ha (pw_lt ha _)]
        have e : mul a (pw a (2 * (b / 2))) = pw a b := by
          have : b = 1 + 2 * (b / 2) := by omega
          conv => rhs; rw [this, pw_add ha]
          congr 1
          show a = mul 1 a
          rw [mul_one_left ha]
        rw [e]
      · have h2 : b % 2 = 0 := by omega
        rw [h2, if_neg (by decide), Mul_is k a a (by omega) ha ha, Option.bind_some]
        rw [power_l0 n k _ _ _ hh (by omega) (by omega) (mul_lt _ ha) hp, pw_sq ha]
        have e : 2 * (b / 2) = b := by omega
        rw [e]
theorem power_is (k a b : Nat) (hk : 50 ≤ k) (ha : a < 256) (hb : b < 2 ^ 40) : gf_power.f k (a : Int) (b : Int) = some ((pw a b : Nat) : Int) := by
  have := power_l0 40 k a b 1 hb (by omega) (by omega) ha (by omega)
  rw [mul_one_left (pw_lt ha _)] at this
  exact this
theorem Inv_is (k a : Nat) (hk : 50 ≤ k) (ha : a < 256) : gf_Inv.f k (a : Int) = some (if a = 0 then (0, 5) else (((pw a 254 : Nat) : Int), 0)) := by
  unfold gf_Inv.f
  by_cases h : a = 0
  · rw [if_pos (by omega), if_pos h]
  · rw [if_neg (by omega), if_neg h]
    have := power_is k a 254 hk ha (by omega)
    simp only [Int.cast_ofNat_Int] at this
    rw [this]; rfl
theorem Div_is (k a b : Nat) (hk : 50 ≤ k) (ha : a < 256) (hb : b < 256) : gf_Div.f k (a : Int) (b : Int) = some (if b = 0 then (0, 5) else (((mul a (pw b 254) : Nat) : Int), 0)) := by
  unfold gf_Div.f
  rw [Inv_is k b hk hb, Option.bind_some]
  by_cases h : b = 0
  · rw [if_pos h, if_pos h, if_neg (by decide)]
  · rw [if_neg h, if_neg h, if_pos rfl, Mul_is k a _ (by omega) ha (pw_lt hb _)]; rfl
/-- What Pow tells. -/
def powT (a : Nat) (n : Int) : Int × Int := if a = 0 then (if n < 0 then (0, 5) else if n = 0 then (1, 0) else (0, 0)) else (((pw a (n % 255).toNat : Nat) : Int), 0)
theorem exp_is (n : Int) (h0 : -9223372036854775808 ≤ n) (h1 : n ≤ 9223372036854775807) : IntKind.u64.wrap (Int.tmod (wrap64 ((Int.tmod n 255) + 255)) 255) = (((n % 255).toNat : Nat) : Int) := by
  have e1 : Int.tmod n 255 = if 0 ≤ n then n % 255 else -((-n) % 255) := by
    split
    · exact Int.tmod_eq_emod_of_nonneg (by assumption)
    · have : n = -(-n) := by omega
      conv => lhs; rw [this, Int.neg_tmod]
      rw [Int.tmod_eq_emod_of_nonneg (by omega)]
  have e2 : -254 ≤ Int.tmod n 255 ∧ Int.tmod n 255 ≤ 254 := by rw [e1]; split <;> omega
  rw [wrap64_small _ (by omega) (by omega), Int.tmod_eq_emod_of_nonneg (by omega), IntKind.wrap_u64]
  rw [e1]
  split <;> omega
theorem Pow_is (k a : Nat) (n : Int) (hk : 51 ≤ k) (ha : a < 256) (h0 : -9223372036854775808 ≤ n) (h1 : n ≤ 9223372036854775807) : gf_Pow.f k (a : Int) n = some (powT a n) := by
  obtain ⟨k, rfl⟩ : ∃ m, k = m + 1 := ⟨k - 1, by omega⟩
  unfold gf_Pow.f powT
  by_cases hn : n = 0
  · rw [if_pos hn]
    by_cases h : a = 0
    · rw [if_pos h, if_neg (by omega), if_pos hn]
    · rw [if_neg h, hn]; rfl
  · rw [if_neg hn]
    by_cases h : a = 0
    · rw [if_pos (by omega), if_pos h]
      simp only [gf_Pow.j0]
      by_cases hl : n < 0
      · rw [if_pos (by simp [hl]), if_pos hl]
      · rw [if_neg (by simp [hl]), if_pos (by omega), if_neg hl, if_neg hn]
    · rw [if_neg (by omega), if_neg h]
      simp only [gf_Pow.j0]
      rw [if_neg (by decide), if_neg (by omega), exp_is n h0 h1, power_is k a _ (by omega) ha (by omega)]
      rfl
theorem Log_l0 : ∀ (n k i a : Nat), i + n < 255 → n < k → a = ex (i + n) → (∀ j, i ≤ j → j < i + n → ex j ≠ a) → gf_Log.l0 k (a : Int) (i : Int) ((ex i : Nat) : Int) = some (((i + n : Nat) : Int), 0)
  | 0, k, i, a, _, hk, he, _ => by
    obtain ⟨k, rfl⟩ : ∃ m, k = m + 1 := ⟨k - 1, by omega⟩
    simp only [gf_Log.l0]
    rw [if_pos (by rw [he]; rfl)]; rfl
  | n + 1, k, i, a, hi, hk, he, hne => by
    obtain ⟨k, rfl⟩ : ∃ m, k = m + 1 := ⟨k - 1, by omega⟩
    simp only [gf_Log.l0]
    have h1 := hne i (by omega) (by omega)
    rw [if_neg (by omega), twice_is _ (ex_lt i), Option.bind_some, wrap64_small _ (by omega) (by omega)]
    have e : ((i : Int) + 1) = ((i + 1 : Nat) : Int) := by omega
    rw [e]
    have := Log_l0 n k (i + 1) a (by omega) (by omega) (by rw [he]; congr 1; omega) (fun j h h' => hne j (by omega) (by omega))
    rw [show i + (n + 1) = i + 1 + n from by omega]
    exact this
theorem Log_is (k a : Nat) (hk : 256 ≤ k) (ha : a < 256) : a = 0 ∧ gf_Log.f k (a : Int) = some (0, 5) ∨ ∃ n, n < 255 ∧ a = ex n ∧ gf_Log.f k (a : Int) = some ((n : Int), 0) := by
  unfold gf_Log.f
  by_cases h : a = 0
  · left; exact ⟨h, by rw [if_pos (by omega)]⟩
  · right
    obtain ⟨n, hn, he⟩ := is_ex ha h
    refine ⟨n, hn, he, ?_⟩
    rw [if_neg (by omega)]
    have := Log_l0 n k 0 a (by omega) (by omega) (by rw [he, Nat.zero_add]) (fun j _ hj hje => by
      have := ex_inj (n := j) (m := n) (by omega) hn (by rw [hje, he])
      omega)
    rw [Nat.zero_add] at this
    exact this
theorem Add_is (a b : Nat) (ha : a < 256) (hb : b < 256) : gf_Add.f (a : Int) (b : Int) = some ((a ^^^ b : Nat) : Int) := by
  unfold gf_Add.f; rw [xor_u8 a b ha hb]
theorem awake_is (k : Nat) (hk : 50 ≤ k) : stowagelaw01_awake.f k = some true := by
  unfold stowagelaw01_awake.f
  have h1 := Inv_is k 2 hk (by omega)
  have h2 := Mul_is k 128 2 (by omega) (by omega) (by omega)
  have h3 := Mul_is k 255 255 (by omega) (by omega) (by omega)
  have e1 : pw 2 254 = 142 := by decide +kernel
  have e2 : mul 128 2 = 29 := by decide +kernel
  have e3 : mul 255 255 = 226 := by decide +kernel
  rw [e1, if_neg (by omega)] at h1
  rw [e2] at h2
  rw [e3] at h3
  simp only [Int.cast_ofNat_Int] at h1 h2 h3
  rw [h1, h2, h3]; rfl

theorem refMul_l1 : ∀ (n k x : Nat), x < 2 ^ 16 → n ≤ 7 → n < k → stowageref01_Mul.l1 k (x : Int) ((n : Int) + 7) = some ((red n x % 256 : Nat) : Int)
  | 0, k, x, hx, _, hk => by
    obtain ⟨k, rfl⟩ : ∃ m, k = m + 1 := ⟨k - 1, by omega⟩
    simp only [stowageref01_Mul.l1]
    rw [if_neg (by omega)]; congr 1
  | n + 1, k, x, hx, hn, hk => by
    obtain ⟨k, rfl⟩ : ∃ m, k = m + 1 := ⟨k - 1, by omega⟩
    simp only [stowageref01_Mul.l1]
    have e : (((n + 1 : Nat) : Int) + 7) = ((n + 8 : Nat) : Int) := by omega
    have e8 : wrap64 (((n + 8 : Nat) : Int) - 8) = (n : Int) := by rw [wrap64_small _ (by omega) (by omega)]; omega
    have e1 : wrap64 (((n + 8 : Nat) : Int) - 1) = (n : Int) + 7 := by rw [wrap64_small _ (by omega) (by omega)]; omega
    rw [e, if_pos (by omega), if_pos (by omega), bit_i64 x (n + 8) (by omega) (by omega), e8, e1]
    have hp : 285 * 2 ^ n < 2 ^ 16 := by
      have : 2 ^ n ≤ 2 ^ 6 := Nat.pow_le_pow_right (by omega) (by omega)
      omega
    have hs : shl .i64 285 (n : Int) = ((285 * 2 ^ n : Nat) : Int) := shl_i64 285 n (by omega) (by omega)
    show _ = some ((red n (if x.testBit (n + 8) then x ^^^ (285 * 2 ^ n) else x) % 256 : Nat) : Int)
    by_cases hb : x.testBit (n + 8) = true
    · rw [(testBit_iff x (n + 8)).2 hb, if_pos (by rfl), if_pos (by omega), hs, xor_i64 x _ (by omega) (by omega), if_pos hb]
      exact refMul_l1 n k _ (Nat.xor_lt_two_pow hx hp) (by omega) (by omega)
    · have h0 : x / 2 ^ (n + 8) % 2 = 0 := by
        have := mt (testBit_iff x (n + 8)).1 hb
        omega
      rw [h0, if_neg (by decide), if_neg hb]
      exact refMul_l1 n k x hx (by omega) (by omega)
theorem cm_sel (n a b x : Nat) : cm (n + 1) a b x = cm n (a * 2) (b / 2) (if b % 2 = 1 then x ^^^ a else x) := rfl
theorem refMul_l0 : ∀ (n i k a b x : Nat), i + n = 8 → a < 256 → b < 256 → x < 2 ^ (8 + i) → n + 9 < k → stowageref01_Mul.l0 k (a : Int) (b : Int) (x : Int) (i : Int) = some ((red 7 (cm n (a * 2 ^ i) (b / 2 ^ i) x) % 256 : Nat) : Int)
  | 0, i, k, a, b, x, hi, _, _, hx, hk => by
    obtain ⟨k, rfl⟩ : ∃ m, k = m + 1 := ⟨k - 1, by omega⟩
    simp only [stowageref01_Mul.l0]
    have : i = 8 := by omega
    subst this
    rw [if_neg (by omega)]
    exact refMul_l1 7 k x (by omega) (by omega) (by omega)
  | n + 1, i, k, a, b, x, hi, ha, hb, hx, hk => by
    obtain ⟨k, rfl⟩ : ∃ m, k = m + 1 := ⟨k - 1, by omega⟩
    simp only [stowageref01_Mul.l0]
    have h8 : 2 ^ (8 + i) ≤ 2 ^ 16 := Nat.pow_le_pow_right (by omega) (by omega)
    have hp : a * 2 ^ i < 2 ^ (8 + i) := by
      rw [Nat.pow_add]
      exact Nat.mul_lt_mul_of_pos_right ha (Nat.two_pow_pos i)
    have ew : wrap64 ((i : Int) + 1) = ((i + 1 : Nat) : Int) := by rw [wrap64_small _ (by omega) (by omega)]; omega
    have ea : wrap64 (a : Int) = (a : Int) := wrap64_small _ (by omega) (by omega)
    rw [if_pos (by omega), if_pos (by omega), bit_u8 b i hb (by omega), ew, ea, shl_i64 a i (by omega) (by omega), cm_sel]
    have e1 : a * 2 ^ i * 2 = a * 2 ^ (i + 1) := by rw [Nat.pow_succ, Nat.mul_assoc]
    have e2 : b / 2 ^ i / 2 = b / 2 ^ (i + 1) := by rw [Nat.div_div_eq_div_mul, Nat.pow_succ]
    have hm : 2 ^ (8 + i) ≤ 2 ^ (8 + (i + 1)) := Nat.pow_le_pow_right (by omega) (by omega)
    rw [e1, e2]
    by_cases hbit : b / 2 ^ i % 2 = 1
    · rw [hbit, if_pos (by rfl), if_pos (by rfl), xor_i64 x _ (by omega) (by omega)]
      exact refMul_l0 n (i + 1) k a b _ (by omega) ha hb (Nat.lt_of_lt_of_le (Nat.xor_lt_two_pow hx hp) hm) (by omega)
    · have h0 : b / 2 ^ i % 2 = 0 := by omega
      rw [h0, if_neg (by decide), if_neg (by decide)]
      exact refMul_l0 n (i + 1) k a b _ (by omega) ha hb (by omega) (by omega)
theorem refMul_is (k a b : Nat) (hk : 18 ≤ k) (ha : a < 256) (hb : b < 256) : stowageref01_Mul.f k (a : Int) (b : Int) = some ((mul a b : Nat) : Int) := by
  have := refMul_l0 8 0 k a b 0 (by omega) ha hb (by omega) (by omega)
  rw [Nat.pow_zero, Nat.mul_one, Nat.div_one, cm_mul b ha] at this
  exact this
theorem refInv_l0 : ∀ (n k a i : Nat), a < 256 → i + n = 256 → 1 ≤ i → n + 18 < k → (∀ j, 1 ≤ j → j < i → mul a j ≠ 1) → stowageref01_Inv.l0 k (a : Int) (i : Int) = some (if a = 0 then (0, 5) else (((pw a 254 : Nat) : Int), 0))
  | 0, k, a, i, ha, hi, _, hk, hne => by
    obtain ⟨k, rfl⟩ : ∃ m, k = m + 1 := ⟨k - 1, by omega⟩
    simp only [stowageref01_Inv.l0]
    rw [if_neg (by omega)]
    by_cases h : a = 0
    · rw [if_pos h]
    · have h1 := inv_ne_zero ha h
      exact absurd (inv_right ha h) (hne _ (by omega) (by have := pw_lt ha 254; omega))
  | n + 1, k, a, i, ha, hi, h1, hk, hne => by
    obtain ⟨k, rfl⟩ : ∃ m, k = m + 1 := ⟨k - 1, by omega⟩
    simp only [stowageref01_Inv.l0]
    have em : ((i : Int)) % 256 = (i : Int) := by omega
    have ew : wrap64 ((i : Int) + 1) = ((i + 1 : Nat) : Int) := by rw [wrap64_small _ (by omega) (by omega)]; omega
    rw [if_pos (by omega), em, refMul_is k a i (by omega) ha (by omega), Option.bind_some, ew]
    by_cases h : mul a i = 1
    · rw [h, if_pos (by rfl), ← inv_unique ha (by omega) h, if_neg]
      intro h0; subst h0; rw [mul_zero_left] at h; omega
    · rw [if_neg (by omega)]
      refine refInv_l0 n k a (i + 1) ha (by omega) (by omega) (by omega) (fun j h2 h3 => ?_)
      by_cases e : j = i
      · subst e; exact h
      · exact hne j h2 (by omega)
theorem refInv_is (k a : Nat) (hk : 300 ≤ k) (ha : a < 256) : stowageref01_Inv.f k (a : Int) = some (if a = 0 then (0, 5) else (((pw a 254 : Nat) : Int), 0)) :=
  refInv_l0 255 k a 1 ha (by omega) (by omega) (by omega) (fun j h h' => by omega)
theorem refDiv_is (k a b : Nat) (hk : 300 ≤ k) (ha : a < 256) (hb : b < 256) : stowageref01_Div.f k (a : Int) (b : Int) = some (if b = 0 then (0, 5) else (((mul a (pw b 254) : Nat) : Int), 0)) := by
  unfold stowageref01_Div.f
  rw [refInv_is k b hk hb, Option.bind_some]
  by_cases h : b = 0
  · rw [if_pos h, if_pos h, if_neg (by decide)]
  · rw [if_neg h, if_neg h, if_pos rfl, refMul_is k a _ (by omega) ha (pw_lt hb _)]; rfl
theorem refPow_l0 : ∀ (n k a i : Nat), a < 256 → i + n < 2 ^ 30 → n + 18 < k → stowageref01_Pow.l0 k (a : Int) ((i + n : Nat) : Int) ((pw a i : Nat) : Int) (i : Int) = some (((pw a (i + n) : Nat) : Int), 0)
  | 0, k, a, i, ha, hi, hk => by
    obtain ⟨k, rfl⟩ : ∃ m, k = m + 1 := ⟨k - 1, by omega⟩
    simp only [stowageref01_Pow.l0]
    rw [if_neg (by omega)]; rfl
  | n + 1, k, a, i, ha, hi, hk => by
    obtain ⟨k, rfl⟩ : ∃ m, k = m + 1 := ⟨k - 1, by omega⟩
    simp only [stowageref01_Pow.l0]
    have ew : wrap64 ((i : Int) + 1) = ((i + 1 : Nat) : Int) := by rw [wrap64_small _ (by omega) (by omega)]; omega
    rw [if_pos (by omega), refMul_is k _ a (by omega) (pw_lt ha _) ha, Option.bind_some, ew]
    have := refPow_l0 n k a (i + 1) ha (by omega) (by omega)
    rw [show i + (n + 1) = i + 1 + n from by omega]
    exact this
theorem refPow_is (k a : Nat) (n : Int) (hk : 300 ≤ k) (ha : a < 256) : stowageref01_Pow.f k (a : Int) n = some (powT a n) := by
  obtain ⟨k, rfl⟩ : ∃ m, k = m + 1 := ⟨k - 1, by omega⟩
  unfold stowageref01_Pow.f powT
  by_cases h : a = 0
  · rw [if_pos (by omega), if_pos h]
    by_cases hl : n < 0
    · rw [if_pos hl, if_pos hl]
    · rw [if_neg hl, if_neg hl]
      by_cases hn : n = 0
      · rw [if_pos hn, if_pos hn]
      · rw [if_neg hn, if_neg hn]
  · rw [if_neg (by omega), if_neg h]
    have e1 : Int.tmod n 255 = if 0 ≤ n then n % 255 else -((-n) % 255) := by
      split
      · exact Int.tmod_eq_emod_of_nonneg (by assumption)
      · have : n = -(-n) := by omega
        conv => lhs; rw [this, Int.neg_tmod]
        rw [Int.tmod_eq_emod_of_nonneg (by omega)]
    simp only [stowageref01_Pow.j0]
    have e2 := refPow_l0 ((n % 255).toNat) k a 0 ha (by omega) (by omega)
    rw [Nat.zero_add] at e2
    have e3 : (((n % 255).toNat : Nat) : Int) = n % 255 := by omega
    rw [e3] at e2
    by_cases hl : Int.tmod n 255 < 0
    · rw [if_pos hl]
      have : wrap64 (Int.tmod n 255 + 255) = n % 255 := by
        have hr : -254 ≤ Int.tmod n 255 := by rw [e1]; split <;> omega
        rw [wrap64_small _ (by omega) (by omega)]
        rw [e1] at hl ⊢
        split at hl <;> rename_i hc
        · omega
        · rw [if_neg hc]; omega
      rw [this]; exact e2
    · rw [if_neg hl]
      have : Int.tmod n 255 = n % 255 := by
        rw [e1] at hl ⊢
        split at hl <;> rename_i hc
        · rw [if_pos hc]
        · rw [if_neg hc]; omega
      rw [this]; exact e2
theorem refLog_l0 : ∀ (n k i a : Nat), i + n < 255 → n + 18 < k → a = ex (i + n) → (∀ j, i ≤ j → j < i + n → ex j ≠ a) → stowageref01_Log.l0 k (a : Int) ((ex i : Nat) : Int) (i : Int) = some (((i + n : Nat) : Int), 0)
  | 0, k, i, a, _, hk, he, _ => by
    obtain ⟨k, rfl⟩ : ∃ m, k = m + 1 := ⟨k - 1, by omega⟩
    simp only [stowageref01_Log.l0]
    rw [if_pos (by omega), if_pos (by rw [he]; rfl)]; rfl
  | n + 1, k, i, a, hi, hk, he, hne => by
    obtain ⟨k, rfl⟩ : ∃ m, k = m + 1 := ⟨k - 1, by omega⟩
    simp only [stowageref01_Log.l0]
    have h1 := hne i (by omega) (by omega)
    have hm := refMul_is k (ex i) 2 (by omega) (ex_lt i) (by omega)
    rw [tw_is_mul (ex_lt i)] at hm
    simp only [Int.cast_ofNat_Int] at hm
    rw [if_pos (by omega), if_neg (by omega), hm, Option.bind_some, wrap64_small _ (by omega) (by omega)]
    have e : ((i : Int) + 1) = ((i + 1 : Nat) : Int) := by omega
    rw [e]
    have := refLog_l0 n k (i + 1) a (by omega) (by omega) (by rw [he]; congr 1; omega) (fun j h h' => hne j (by omega) (by omega))
    rw [show i + (n + 1) = i + 1 + n from by omega]
    exact this
theorem refLog_zero : ∀ (n k i : Nat), i + n = 255 → n + 18 < k → stowageref01_Log.l0 k 0 ((ex i : Nat) : Int) (i : Int) = some (0, 5)
  | 0, k, i, hi, hk => by
    obtain ⟨k, rfl⟩ : ∃ m, k = m + 1 := ⟨k - 1, by omega⟩
    simp only [stowageref01_Log.l0]
    rw [if_neg (by omega)]
  | n + 1, k, i, hi, hk => by
    obtain ⟨k, rfl⟩ : ∃ m, k = m + 1 := ⟨k - 1, by omega⟩
    simp only [stowageref01_Log.l0]
    have h1 := ex_ne_zero i
    have hm := refMul_is k (ex i) 2 (by omega) (ex_lt i) (by omega)
    rw [tw_is_mul (ex_lt i)] at hm
    simp only [Int.cast_ofNat_Int] at hm
    rw [if_pos (by omega), if_neg (by omega), hm, Option.bind_some, wrap64_small _ (by omega) (by omega)]
    have e : ((i : Int) + 1) = ((i + 1 : Nat) : Int) := by omega
    rw [e]
    exact refLog_zero n k (i + 1) (by omega) (by omega)
theorem refLog_is (k a n : Nat) (hk : 300 ≤ k) (hn : n < 255) (he : a = ex n) : stowageref01_Log.f k (a : Int) = some ((n : Int), 0) := by
  have := refLog_l0 n k 0 a (by omega) (by omega) (by rw [he, Nat.zero_add]) (fun j _ hj hje => by
      have := ex_inj (n := j) (m := n) (by omega) hn (by rw [hje, he])
      omega)
  rw [Nat.zero_add] at this
  exact this
theorem refLog_is0 (k : Nat) (hk : 300 ≤ k) : stowageref01_Log.f k 0 = some (0, 5) := refLog_zero 255 k 0 (by omega) (by omega)

theorem GfTells : stowagelaw01_GfTells.Pure := by
  intro a0 a1 n w0 w1 w2
  have b0 := bounds_u8 w0
  have b1 := bounds_u8 w1
  have b2 := bounds_i64 w2
  obtain ⟨a, rfl⟩ := Int.eq_ofNat_of_zero_le b0.1
  obtain ⟨b, rfl⟩ := Int.eq_ofNat_of_zero_le b1.1
  have ha : a < 256 := by omega
  have hb : b < 256 := by omega
  refine ⟨400, ?_⟩
  unfold stowagelaw01_GfTells.f
  rw [Inv_is 400 a (by omega) ha, Option.bind_some, refInv_is 400 a (by omega) ha, Option.bind_some, Div_is 400 a b (by omega) ha hb, Option.bind_some, refDiv_is 400 a b (by omega) ha hb, Option.bind_some,
    Pow_is 400 a n (by omega) ha b2.1 b2.2, Option.bind_some, refPow_is 400 a n (by omega) ha, Option.bind_some]
  have hl : ∃ r, gf_Log.f 400 (a : Int) = some r ∧ stowageref01_Log.f 400 (a : Int) = some r := by
    rcases Log_is 400 a (by omega) ha with ⟨h0, h⟩ | ⟨m, hm, he, h⟩
    · refine ⟨_, h, ?_⟩
      rw [h0]
      exact refLog_is0 400 (by omega)
    · exact ⟨_, h, refLog_is 400 a m (by omega) hm he⟩
  obtain ⟨r, h1, h2⟩ := hl
  rw [h1, Option.bind_some, h2, Option.bind_some, Add_is a b ha hb, Option.bind_some, xor_u8 a b ha hb, if_pos rfl, Mul_is 400 a b (by omega) ha hb, Option.bind_some, refMul_is 400 a b (by omega) ha hb, Option.bind_some]
  rw [if_pos rfl, if_pos rfl, if_pos rfl, if_pos rfl, if_pos rfl, if_pos rfl, if_pos rfl, if_pos rfl, if_pos rfl, awake_is 400 (by omega)]
  rfl

end Go.Proofs.Ytpogicakpgpkcaa.Pure
