/- The statement GfKnown: the examples of the chapter are answered as it says. No conditions. -/
import Derived.Test.YtpogicakpgpkcaaHGfKnownx3
import Derived.Test.YtpogicakpgpkcaaGfBits
namespace Go.Proofs.Ytpogicakpgpkcaa.Pure
open Go.RowKit Go.Proofs.Ytpogicakpgpkcaa.PGfKnown Go.Proofs.YtpogicakpgpkcaaW.PrintWords Go.Proofs.YtpogicakpgpkcaaW.PrintLast Go.Proofs.Ytpogicakpgpkcaa.Gf

/-! ### What the printed functions come to -/
theorem at_le {α : Type} {g : Nat → Option α} (h : ∀ k, LeO (g k) (g (k + 1))) {k : Nat} {r : α} (hr : g k = some r) : Ev g r := Ev.of h hr
theorem twice_is (a : Nat) (h : a < 256) : gf_twice.f (a : Int) = some ((tw a : Nat) : Int) := by
  unfold gf_twice.f; rw [tw_u8 a h]
theorem Mul_l0 : ∀ (n k a b p : Nat), b < 2 ^ n → n < k → n ≤ 8 → a < 256 → p < 256 → gf_Mul.l0 k (a : Int) (b : Int) (p : Int) = some ((mulL n a b p : Nat) : Int)
  | 0, k, a, b, p, hb, hk, _, _, _ => by
    obtain ⟨k, rfl⟩ : ∃ m, k = m + 1 := ⟨k - 1, by omega⟩
    have hb0 : b = 0 := by have : b < 1 := hb; omega
    subst hb0
    simp only [gf_Mul.l0]; rw [if_pos (by omega)]; rfl
  | n + 1, k, a, b, p, hb, hk, hn, ha, hp => by
    obtain ⟨k, rfl⟩ : ∃ m, k = m + 1 := ⟨k - 1, by omega⟩
    simp only [gf_Mul.l0]
    have hb8 : b < 256 := Nat.lt_of_lt_of_le hb (Nat.pow_le_pow_right (n := 2) (by omega) (by omega : n + 1 ≤ 8))
    by_cases h0 : b = 0
    · subst h0
      rw [if_pos (by omega), mulL_zero_b]
    · rw [if_neg (by omega), twice_is a ha, Option.bind_some, half, pick_u8 a b ha hb8, xor_u8 p _ hp (sel_lt ha _)]
      exact Mul_l0 n k _ _ _ (by rw [Nat.pow_succ] at hb; omega) (by omega) (by omega) (tw_lt ha) (xor_lt hp (sel_lt ha _))
theorem Mul_is (k a b : Nat) (hk : 9 ≤ k) (ha : a < 256) (hb : b < 256) : gf_Mul.f k (a : Int) (b : Int) = some ((mul a b : Nat) : Int) :=
  Mul_l0 8 k a b 0 hb (by omega) (by omega) ha (by omega)
theorem power_l0 : ∀ (n k a b p : Nat), b < 2 ^ n → n + 9 < k → n ≤ 40 → a < 256 → p < 256 → gf_power.l0 k (a : Int) (b : Int) (p : Int) = some ((mul p (pw a b) : Nat) : Int)
  | 0, k, a, b, p, hb, hk, _, _, hp => by
    obtain ⟨k, rfl⟩ : ∃ m, k = m + 1 := ⟨k - 1, by omega⟩
    have hb0 : b = 0 := by have : b < 1 := hb; omega
    subst hb0
    simp only [gf_power.l0]; rw [if_pos (by omega)]
    show _ = some ((mul p 1 : Nat) : Int)
    rw [mul_one_right hp]
  | n + 1, k, a, b, p, hb, hk, hn, ha, hp => by
    obtain ⟨k, rfl⟩ : ∃ m, k = m + 1 := ⟨k - 1, by omega⟩
    simp only [gf_power.l0]
    have hb8 : b < 2 ^ 40 := Nat.lt_of_lt_of_le hb (Nat.pow_le_pow_right (n := 2) (by omega) (by omega))
    have hh : b / 2 < 2 ^ n := by rw [Nat.pow_succ] at hb; omega
    by_cases h0 : b = 0
    · subst h0
      rw [if_pos (by omega)]
      show _ = some ((mul p 1 : Nat) : Int)
      rw [mul_one_right hp]
    · rw [if_neg (by omega), one_u64 b hb8, half]
      by_cases h1 : b % 2 = 1
      · rw [h1, if_pos (by rfl), Mul_is k p a (by omega) hp ha, Option.bind_some, Mul_is k a a (by omega) ha ha, Option.bind_some]
        rw [power_l0 n k _ _ _ hh (by omega) (by omega) (mul_lt _ ha) (mul_lt _ hp), pw_sq ha, mul_assoc hp ha (pw_lt ha _)]
        have e : mul a (pw a (2 * (b / 2))) = pw a b := by
          have : b = 1 + 2 * (b / 2) := by omega
          conv => rhs; rw [this, pw_add ha]
          congr 1
          show a = mul 1 a
          rw [mul_one_left ha]
        rw [e]
      · have h2 : b % 2 = 0 := by omega
        rw [h2, if_neg (by decide), Mul_is k a a (by omega) ha ha, Option.bind_some]
        rw [power_l0 n k _ _ _ hh (by omega) (by omega) (mul_lt _ ha) hp, pw_sq ha]
        have e : 2 * (b / 2) = b := by omega
        rw [e]
theorem power_is (k a b : Nat) (hk : 50 ≤ k) (ha : a < 256) (hb : b < 2 ^ 40) : gf_power.f k (a : Int) (b : Int) = some ((pw a b : Nat) : Int) := by
  have := power_l0 40 k a b 1 hb (by omega) (by omega) ha (by omega)
  rw [mul_one_left (pw_lt ha _)] at this
  exact this
theorem Inv_is (k a : Nat) (hk : 50 ≤ k) (ha : a < 256) : gf_Inv.f k (a : Int) = some (if a = 0 then (0, 5) else (((pw a 254 : Nat) : Int), 0)) := by
  unfold gf_Inv.f
  by_cases h : a = 0
  · rw [if_pos (by omega), if_pos h]
  · rw [if_neg (by omega), if_neg h]
    have := power_is k a 254 hk ha (by omega)
    simp only [Int.cast_ofNat_Int] at this
    rw [this]; rfl
theorem Div_is (k a b : Nat) (hk : 50 ≤ k) (ha : a < 256) (hb : b < 256) : gf_Div.f k (a : Int) (b : Int) = some (if b = 0 then (0, 5) else (((mul a (pw b 254) : Nat) : Int), 0)) := by
  unfold gf_Div.f
  rw [Inv_is k b hk hb, Option.bind_some]
  by_cases h : b = 0
  · rw [if_pos h, if_pos h, if_neg (by decide)]
  · rw [if_neg h, if_neg h, if_pos rfl, Mul_is k a _ (by omega) ha (pw_lt hb _)]; rfl
/-- What Pow tells. -/
def powT (a : Nat) (n : Int) : Int × Int := if a = 0 then (if n < 0 then (0, 5) else if n = 0 then (1, 0) else (0, 0)) else (((pw a (n % 255).toNat : Nat) : Int), 0)
theorem exp_is (n : Int) (h0 : -9223372036854775808 ≤ n) (h1 : n ≤ 9223372036854775807) : IntKind.u64.wrap (Int.tmod (wrap64 ((Int.tmod n 255) + 255)) 255) = (((n % 255).toNat : Nat) : Int) := by
  have e1 : Int.tmod n 255 = if 0 ≤ n then n % 255 else -((-n) % 255) := by
    split
    · exact Int.tmod_eq_emod_of_nonneg (by assumption)
    · have : n = -(-n) := by omega
      conv => lhs; rw [this, Int.neg_tmod]
      rw [Int.tmod_eq_emod_of_nonneg (by omega)]
  have e2 : -254 ≤ Int.tmod n 255 ∧ Int.tmod n 255 ≤ 254 := by rw [e1]; split <;> omega
  rw [wrap64_small _ (by omega) (by omega), Int.tmod_eq_emod_of_nonneg (by omega), IntKind.wrap_u64]
  rw [e1]
  split <;> omega
theorem Pow_is (k a : Nat) (n : Int) (hk : 51 ≤ k) (ha : a < 256) (h0 : -9223372036854775808 ≤ n) (h1 : n ≤ 9223372036854775807) : gf_Pow.f k (a : Int) n = some (powT a n) := by
  obtain ⟨k, rfl⟩ : ∃ m, k = m + 1 := ⟨k - 1, by omega⟩
  unfold gf_Pow.f powT
  by_cases hn : n = 0
  · rw [if_pos hn]
    by_cases h : a = 0
    · rw [if_pos h, if_neg (by omega), if_pos hn]
    · rw [if_neg h, hn]; rfl
  · rw [if_neg hn]
    by_cases h : a = 0
    · rw [if_pos (by omega), if_pos h]
      simp only [gf_Pow.j0]
      by_cases hl : n < 0
      · rw [if_pos (by simp [hl]), if_pos hl]
      · rw [if_neg (by simp [hl]), if_pos (by omega), if_neg hl, if_neg hn]
    · rw [if_neg (by omega), if_neg h]
      simp only [gf_Pow.j0]
      rw [if_neg (by decide), if_neg (by omega), exp_is n h0 h1, power_is k a _ (by omega) ha (by omega)]
      rfl
theorem Log_l0 : ∀ (n k i a : Nat), i + n < 255 → n < k → a = ex (i + n) → (∀ j, i ≤ j → j < i + n → ex j ≠ a) → gf_Log.l0 k (a : Int) (i : Int) ((ex i : Nat) : Int) = some (((i + n : Nat) : Int), 0)
  | 0, k, i, a, _, hk, he, _ => by
    obtain ⟨k, rfl⟩ : ∃ m, k = m + 1 := ⟨k - 1, by omega⟩
    simp only [gf_Log.l0]
    rw [if_pos (by rw [he]; rfl)]; rfl
  | n + 1, k, i, a, hi, hk, he, hne => by
    obtain ⟨k, rfl⟩ : ∃ m, k = m + 1 := ⟨k - 1, by omega⟩
    simp only [gf_Log.l0]
    have h1 := hne i (by omega) (by omega)
    rw [if_neg (by omega), twice_is _ (ex_lt i), Option.bind_some, wrap64_small _ (by omega) (by omega)]
    have e : ((i : Int) + 1) = ((i + 1 : Nat) : Int) := by omega
    rw [e]
    have := Log_l0 n k (i + 1) a (by omega) (by omega) (by rw [he]; congr 1; omega) (fun j h h' => hne j (by omega) (by omega))
    rw [show i + (n + 1) = i + 1 + n from by omega]
    exact this
theorem Log_is (k a : Nat) (hk : 256 ≤ k) (ha : a < 256) : a = 0 ∧ gf_Log.f k (a : Int) = some (0, 5) ∨ ∃ n, n < 255 ∧ a = ex n ∧ gf_Log.f k (a : Int) = some ((n : Int), 0) := by
  unfold gf_Log.f
  by_cases h : a = 0
  · left; exact ⟨h, by rw [if_pos (by omega)]⟩
  · right
    obtain ⟨n, hn, he⟩ := is_ex ha h
    refine ⟨n, hn, he, ?_⟩
    rw [if_neg (by omega)]
    have := Log_l0 n k 0 a (by omega) (by omega) (by rw [he, Nat.zero_add]) (fun j _ hj hje => by
      have := ex_inj (n := j) (m := n) (by omega) hn (by rw [hje, he])
      omega)
    rw [Nat.zero_add] at this
    exact this
theorem Add_is (a b : Nat) (ha : a < 256) (hb : b < 256) : gf_Add.f (a : Int) (b : Int) = some ((a ^^^ b : Nat) : Int) := by
  unfold gf_Add.f; rw [xor_u8 a b ha hb]
theorem awake_is (k : Nat) (hk : 50 ≤ k) : stowagelaw01_awake.f k = some true := by
  unfold stowagelaw01_awake.f
  have h1 := Inv_is k 2 hk (by omega)
  have h2 := Mul_is k 128 2 (by omega) (by omega) (by omega)
  have h3 := Mul_is k 255 255 (by omega) (by omega) (by omega)
  have e1 : pw 2 254 = 142 := by decide +kernel
  have e2 : mul 128 2 = 29 := by decide +kernel
  have e3 : mul 255 255 = 226 := by decide +kernel
  rw [e1, if_neg (by omega)] at h1
  rw [e2] at h2
  rw [e3] at h3
  simp only [Int.cast_ofNat_Int] at h1 h2 h3
  rw [h1, h2, h3]; rfl

theorem pow_is (k a : Nat) (n : Int) (w : Int) (hk : 51 ≤ k) (ha : a < 256) (h0 : -9223372036854775808 ≤ n) (h1 : n ≤ 9223372036854775807) (h : powT a n = (w, 0)) : stowagelaw01_pow.f k (a : Int) n w = some true := by
  unfold stowagelaw01_pow.f
  rw [Pow_is k a n hk ha h0 h1, Option.bind_some, h, if_pos rfl]; rfl
theorem pair_is (k : Nat) (l0 l1 : List Int) (hk : 1 ≤ k) (h0 : l0.length ≤ 65536) (h1 : l1.length ≤ 65536) : gf_pair.f k l0 l1 = some (if l0.length = l1.length then 0 else 2) := by
  obtain ⟨k, rfl⟩ : ∃ m, k = m + 1 := ⟨k - 1, by omega⟩
  unfold gf_pair.f
  rw [if_neg (by omega)]
  simp only [gf_pair.j0]
  rw [if_neg (by simp; omega)]
  by_cases h : l0.length = l1.length
  · rw [if_pos (by omega), if_pos h]
  · rw [if_neg (by omega), if_neg h]
theorem known_is (k : Nat) (hk : 400 ≤ k) : stowagelaw01_GfKnown.f k = some true := by
  obtain ⟨m, rfl⟩ : ∃ m, k = m + 400 := ⟨k - 400, by omega⟩
  clear hk
  have h1 := Inv_is (m + 400) 0 (by omega) (by omega)
  have h2 := Div_is (m + 400) 9 7 (by omega) (by omega) (by omega)
  have h3 := Pow_is (m + 400) 0 (-1) (by omega) (by omega) (by omega) (by omega)
  have h4 : gf_Log.f (m + 400) 29 = some (8, 0) := by
    rcases Log_is (m + 400) 29 (by omega) (by omega) with ⟨h0, _⟩ | ⟨n, hn, he, h⟩
    · omega
    · have e : ex 8 = 29 := by decide
      have := ex_inj (n := n) (m := 8) hn (by omega) (by rw [← he, e])
      subst this
      exact h
  have e2 : mul 9 (pw 7 254) = 3 := by decide +kernel
  have e3 : powT 0 (-1) = (0, 5) := by decide
  rw [if_pos rfl] at h1
  rw [if_neg (by omega), e2] at h2
  rw [e3] at h3
  simp only [Int.cast_ofNat_Int] at h1 h2 h3
  have hM : ∀ (n a b : Nat), a < 256 → b < 256 → gf_Mul.f (n + 100) (a : Int) (b : Int) = some ((mul a b : Nat) : Int) := fun n a b ha hb => Mul_is (n + 100) a b (by omega) ha hb
  have m21 : ∀ n, gf_Mul.f (n + 100) 2 1 = some 2 := fun n => by
    have := hM n 2 1 (by omega) (by omega)
    rwa [mul_one_right (by omega)] at this
  have m13 : ∀ n, gf_Mul.f (n + 100) 1 3 = some 3 := fun n => by
    have := hM n 1 3 (by omega) (by omega)
    rwa [mul_one_left (by omega)] at this
  have m24 : ∀ n, gf_Mul.f (n + 100) 2 4 = some 8 := fun n => by
    have := hM n 2 4 (by omega) (by omega)
    rwa [show mul 2 4 = 8 from by decide +kernel] at this
  have m37 : ∀ n, gf_Mul.f (n + 100) 3 7 = some 9 := fun n => by
    have := hM n 3 7 (by omega) (by omega)
    rwa [show mul 3 7 = 9 from by decide +kernel] at this
  have h5 : gf_Axpy.f (m + 400) [1, 2] [1, 1] 2 = some ([3, 0], 0) := by
    unfold gf_Axpy.f
    rw [pair_is (m + 400) [1, 1] [1, 2] (by omega) (by decide) (by decide), Option.bind_some, if_pos (by rfl), if_pos (by decide), if_pos (by decide), if_pos (by decide)]
    show gf_Axpy.l0 (m + 399 + 1) [1, 1] 2 [0, 0] [1, 2] 2 0 = _
    rw [gf_Axpy.l0]
    rw [if_pos (by decide), if_pos (by decide), if_pos (by decide), if_pos (by decide)]
    rw [show rd [1, 1] 0 = 1 from rfl, m21 (m + 299), Option.bind_some, if_pos (by decide), show wrap64 (0 + 1) = 1 from by decide +kernel, gf_Axpy.l0]
    rw [if_pos (by decide), if_pos (by decide), if_pos (by decide), if_pos (by decide)]
    rw [show rd [1, 1] 1 = 1 from rfl, m21 (m + 298), Option.bind_some, if_pos (by decide), show wrap64 (1 + 1) = 2 from by decide +kernel, gf_Axpy.l0, if_neg (by decide)]
    decide +kernel
  have h6 : gf_Dot.f (m + 400) [1, 2] [3, 4] = some (11, 0) := by
    unfold gf_Dot.f
    rw [pair_is (m + 400) [1, 2] [3, 4] (by omega) (by decide) (by decide), Option.bind_some, if_pos (by rfl), if_pos (by decide), if_pos (by decide)]
    show gf_Dot.l0 (m + 399 + 1) [3, 4] 0 [1, 2] 2 0 = _
    rw [gf_Dot.l0]
    rw [if_pos (by decide), if_pos (by decide), if_pos (by decide), if_pos (by decide)]
    rw [show rd [1, 2] 0 = 1 from rfl, show rd [3, 4] 0 = 3 from rfl, m13 (m + 299), Option.bind_some, show wrap64 (0 + 1) = 1 from by decide +kernel, gf_Dot.l0]
    rw [if_pos (by decide), if_pos (by decide), if_pos (by decide), if_pos (by decide)]
    rw [show rd [1, 2] 1 = 2 from rfl, show rd [3, 4] 1 = 4 from rfl, m24 (m + 298), Option.bind_some, show wrap64 (1 + 1) = 2 from by decide +kernel, gf_Dot.l0, if_neg (by decide)]
    decide +kernel
  have h7 : gf_Dot.f (m + 400) [1] [] = some (0, 2) := by
    unfold gf_Dot.f
    rw [pair_is (m + 400) [1] [] (by omega) (by decide) (by decide), Option.bind_some]; rfl
  have h8 := awake_is (m + 400) (by omega)
  have h9 := Add_is 83 202 (by omega) (by omega)
  rw [show (83 ^^^ 202 : Nat) = 153 from by decide] at h9
  simp only [Int.cast_ofNat_Int] at h9
  have p1 := pow_is (m + 399) 2 8 29 (by omega) (by omega) (by omega) (by omega) (by decide +kernel)
  have p2 := pow_is (m + 399) 2 255 1 (by omega) (by omega) (by omega) (by omega) (by decide +kernel)
  have p3 := pow_is (m + 399) 0 0 1 (by omega) (by omega) (by omega) (by omega) (by decide +kernel)
  have p4 := pow_is (m + 399) 2 (-1) 142 (by omega) (by omega) (by omega) (by omega) (by decide +kernel)
  simp only [Int.cast_ofNat_Int] at p1 p2 p3 p4
  have h10 : stowagekit_SameBytes.f [3, 0] [3, 0] = some true := by decide +kernel
  unfold stowagelaw01_GfKnown.f
  rw [h1, Option.bind_some, h2, Option.bind_some, h3, Option.bind_some, h4, Option.bind_some, h5, Option.bind_some, h6, Option.bind_some, h7, Option.bind_some, h8, Option.bind_some, if_pos rfl, h9, Option.bind_some, if_pos rfl, m37 (m + 300), Option.bind_some, if_pos rfl, if_pos rfl, if_pos rfl]
  show stowagelaw01_GfKnown.j0 (m + 399 + 1) _ _ _ _ _ _ _ _ _ = _
  simp only [stowagelaw01_GfKnown.j0]
  rw [if_pos (by rfl), p1, Option.bind_some, if_pos rfl, p2, Option.bind_some, if_pos rfl, p3, Option.bind_some, if_pos rfl, p4, Option.bind_some]
  simp only [if_true, h10, Option.bind_some]
  rfl

theorem GfKnown : stowagelaw01_GfKnown.Pure := ⟨400, known_is 400 (by omega)⟩

end Go.Proofs.Ytpogicakpgpkcaa.Pure
