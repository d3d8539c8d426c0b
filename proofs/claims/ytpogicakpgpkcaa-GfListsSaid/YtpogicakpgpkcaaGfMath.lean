/- Plain arithmetic of the field of 256 numbers, as natural numbers: doubling, products, powers, inverses, logs. No Go, no memory. -/
import Derived.Laws.BitsLemmas
namespace Go.Proofs.Ytpogicakpgpkcaa.Gf

/-- Doubling. -/
def tw (a : Nat) : Nat := (a * 2 % 256) ^^^ (a / 128 * 29)
/-- The product's loop, n rounds. -/
def mulL : Nat → Nat → Nat → Nat → Nat
  | 0, _, _, p => p
  | n + 1, a, b, p => mulL n (tw a) (b / 2) (p ^^^ (if b % 2 = 1 then a else 0))
def mul (a b : Nat) : Nat := mulL 8 a b 0
def twn : Nat → Nat → Nat
  | 0, a => a
  | n + 1, a => tw (twn n a)
def ex (n : Nat) : Nat := twn n 1

theorem tw_lt {a : Nat} (h : a < 256) : tw a < 256 := by
  unfold tw
  refine Nat.xor_lt_two_pow (n := 8) (by omega) ?_
  omega
theorem tw_xor' : ∀ a < 256, ∀ b < 256, tw (a ^^^ b) = tw a ^^^ tw b := by decide +kernel
theorem tw_xor {a b : Nat} (ha : a < 256) (hb : b < 256) : tw (a ^^^ b) = tw a ^^^ tw b := tw_xor' a ha b hb
theorem xor_lt {a b : Nat} (ha : a < 256) (hb : b < 256) : a ^^^ b < 256 := Nat.xor_lt_two_pow (n := 8) ha hb
theorem sel_lt {a : Nat} (h : a < 256) (c : Prop) [Decidable c] : (if c then a else 0) < 256 := by split <;> omega
theorem mulL_lt : ∀ (n a b p : Nat), a < 256 → p < 256 → mulL n a b p < 256
  | 0, _, _, _, _, hp => hp
  | n + 1, _, _, _, ha, hp => mulL_lt n _ _ _ (tw_lt ha) (xor_lt hp (sel_lt ha _))
theorem mul_lt {a : Nat} (b : Nat) (ha : a < 256) : mul a b < 256 := mulL_lt _ _ _ _ ha (by omega)
theorem tw_zero : tw 0 = 0 := by decide
theorem mulL_zero_b : ∀ (n a p : Nat), mulL n a 0 p = p
  | 0, _, _ => rfl
  | n + 1, a, p => by
    show mulL n (tw a) (0 / 2) (p ^^^ (if 0 % 2 = 1 then a else 0)) = p
    rw [if_neg (by omega), Nat.xor_zero, Nat.zero_div]; exact mulL_zero_b n _ _
theorem mulL_zero_a : ∀ (n b p : Nat), mulL n 0 b p = p
  | 0, _, _ => rfl
  | n + 1, b, p => by
    show mulL n (tw 0) (b / 2) (p ^^^ (if b % 2 = 1 then 0 else 0)) = p
    rw [tw_zero, ite_self, Nat.xor_zero]; exact mulL_zero_a n _ _
theorem mul_zero_left (b : Nat) : mul 0 b = 0 := mulL_zero_a _ _ _
theorem mul_zero_right (a : Nat) : mul a 0 = 0 := mulL_zero_b _ _ _
theorem mulL_tw : ∀ (n a b p : Nat), a < 256 → p < 256 → mulL n (tw a) b (tw p) = tw (mulL n a b p)
  | 0, _, _, _, _, _ => rfl
  | n + 1, a, b, p, ha, hp => by
    show mulL n (tw (tw a)) (b / 2) (tw p ^^^ (if b % 2 = 1 then tw a else 0)) = tw (mulL n (tw a) (b / 2) (p ^^^ (if b % 2 = 1 then a else 0)))
    rw [← mulL_tw n _ _ _ (tw_lt ha) (xor_lt hp (sel_lt ha _)), tw_xor hp (sel_lt ha _)]
    congr 2
    split
    · rfl
    · exact tw_zero.symm
theorem mul_tw {a : Nat} (b : Nat) (ha : a < 256) : mul (tw a) b = tw (mul a b) := by
  have := mulL_tw 8 a b 0 ha (by omega)
  rwa [tw_zero] at this
theorem mul_one_left' : ∀ b < 256, mul 1 b = b := by decide +kernel
theorem mul_one_left {b : Nat} (h : b < 256) : mul 1 b = b := mul_one_left' b h
theorem twn_lt : ∀ (n : Nat) {a : Nat}, a < 256 → twn n a < 256
  | 0, _, h => h
  | n + 1, _, h => tw_lt (twn_lt n h)
theorem twn_add (n m a : Nat) : twn (n + m) a = twn n (twn m a) := by
  induction n with
  | zero => simp [twn]
  | succ n ih => rw [Nat.succ_add]; show tw (twn (n + m) a) = tw (twn n (twn m a)); rw [ih]
theorem ex_lt (n : Nat) : ex n < 256 := twn_lt n (by omega)
theorem mul_ex (n : Nat) {b : Nat} (hb : b < 256) : mul (ex n) b = twn n b := by
  induction n with
  | zero => exact mul_one_left hb
  | succ n ih => show mul (tw (ex n)) b = tw (twn n b); rw [mul_tw b (ex_lt n), ih]
theorem mul_ex_ex (n m : Nat) : mul (ex n) (ex m) = ex (n + m) := by rw [mul_ex n (ex_lt m)]; unfold ex; rw [← twn_add]
/-- The logs, by a search. -/
def lgFrom : Nat → Nat → Nat → Nat → Nat
  | 0, n, _, _ => n
  | k + 1, n, x, a => if x = a then n else lgFrom k (n + 1) (tw x) a
def lg (a : Nat) : Nat := lgFrom 255 0 1 a
theorem twn_tw (n a : Nat) : twn n (tw a) = tw (twn n a) := by
  induction n with
  | zero => rfl
  | succ n ih => show tw (twn n (tw a)) = tw (tw (twn n a)); rw [ih]
/-- A faster way to see that every number that is not 0 is a power. -/
def exs : Nat → Nat → List Nat
  | 0, _ => []
  | k + 1, x => x :: exs k (tw x)
theorem exs_get : ∀ (k x n : Nat), n < k → (exs k x)[n]? = some (twn n x)
  | 0, _, _, h => by omega
  | k + 1, x, 0, _ => rfl
  | k + 1, x, n + 1, h => by
    show (exs k (tw x))[n]? = some (tw (twn n x))
    rw [exs_get k (tw x) n (by omega), twn_tw]
theorem exs_len : ∀ (k x : Nat), (exs k x).length = k
  | 0, _ => rfl
  | k + 1, x => by show (exs k (tw x)).length + 1 = k + 1; rw [exs_len k]
theorem all_in : ∀ a < 256, a ≠ 0 → a ∈ exs 255 1 := by decide +kernel
theorem is_ex {a : Nat} (h : a < 256) (h0 : a ≠ 0) : ∃ n, n < 255 ∧ a = ex n := by
  obtain ⟨n, hn, he⟩ := List.getElem_of_mem (all_in a h h0)
  have hl := exs_len 255 1
  refine ⟨n, by omega, ?_⟩
  have := exs_get 255 1 n (by omega)
  rw [List.getElem?_eq_getElem hn, he] at this
  exact (Option.some.inj this)
theorem ex_nodup : (exs 255 1).Nodup := by decide +kernel
theorem nodup_inj {L : List Nat} (hd : L.Nodup) {n m x : Nat} (h1 : L[n]? = some x) (h2 : L[m]? = some x) : n = m := by
  have hn := (List.getElem?_eq_some_iff.1 h1).1
  exact (List.getElem?_inj hn hd).1 (h1.trans h2.symm)
theorem ex_inj' (k : Nat) (hd : (exs k 1).Nodup) {n m : Nat} (hn : n < k) (hm : m < k) (h : ex n = ex m) : n = m := by
  have h1 := exs_get k 1 n hn
  have h2 := exs_get k 1 m hm
  have h3 : twn m 1 = twn n 1 := h.symm
  rw [h3] at h2
  exact nodup_inj hd h1 h2
theorem ex_inj {n m : Nat} (hn : n < 255) (hm : m < 255) (h : ex n = ex m) : n = m := ex_inj' _ ex_nodup hn hm h
theorem ex_255 : ex 255 = 1 := by decide +kernel
theorem ex_ne_zero' : (exs 255 1).all (fun x => x != 0) = true := by decide +kernel
theorem ex_255' : twn 255 1 = 1 := ex_255
theorem twn_add' (n m x : Nat) (h : twn m 1 = x) : twn (n + m) 1 = twn n x := by rw [twn_add, h]
theorem ex_add255 (n : Nat) : ex (n + 255) = ex n := twn_add' n 255 1 ex_255'
theorem ex_add (n q : Nat) : ex (n + 255 * q) = ex n := by
  induction q with
  | zero => rfl
  | succ q ih => rw [Nat.mul_succ, ← Nat.add_assoc, ex_add255, ih]
theorem ex_mod (n : Nat) : ex (n % 255) = ex n := by
  conv => rhs; rw [← Nat.mod_add_div n 255]
  rw [ex_add]
theorem ex_ne_zero (n : Nat) : ex n ≠ 0 := by
  rw [← ex_mod]
  have h1 := exs_get 255 1 (n % 255) (Nat.mod_lt _ (by omega))
  have h2 := List.all_eq_true.1 ex_ne_zero' (ex (n % 255)) (List.mem_of_getElem? h1)
  simpa using h2
theorem mul_ne_zero {a b : Nat} (ha : a < 256) (hb : b < 256) (h1 : a ≠ 0) (h2 : b ≠ 0) : mul a b ≠ 0 := by
  obtain ⟨n, _, rfl⟩ := is_ex ha h1
  obtain ⟨m, _, rfl⟩ := is_ex hb h2
  rw [mul_ex_ex]; exact ex_ne_zero _
theorem mul_comm {a b : Nat} (ha : a < 256) (hb : b < 256) : mul a b = mul b a := by
  by_cases h1 : a = 0
  · subst h1; rw [mul_zero_left, mul_zero_right]
  by_cases h2 : b = 0
  · subst h2; rw [mul_zero_left, mul_zero_right]
  obtain ⟨n, _, rfl⟩ := is_ex ha h1
  obtain ⟨m, _, rfl⟩ := is_ex hb h2
  rw [mul_ex_ex, mul_ex_ex, Nat.add_comm]
theorem mul_assoc {a b c : Nat} (ha : a < 256) (hb : b < 256) (hc : c < 256) : mul (mul a b) c = mul a (mul b c) := by
  by_cases h1 : a = 0
  · subst h1; rw [mul_zero_left, mul_zero_left, mul_zero_left]
  by_cases h2 : b = 0
  · subst h2; rw [mul_zero_right, mul_zero_left, mul_zero_right]
  by_cases h3 : c = 0
  · subst h3; rw [mul_zero_right, mul_zero_right, mul_zero_right]
  obtain ⟨n, _, rfl⟩ := is_ex ha h1
  obtain ⟨m, _, rfl⟩ := is_ex hb h2
  obtain ⟨l, _, rfl⟩ := is_ex hc h3
  rw [mul_ex_ex, mul_ex_ex, mul_ex_ex, mul_ex_ex, Nat.add_assoc]
theorem twn_xor (n : Nat) {a b : Nat} (ha : a < 256) (hb : b < 256) : twn n (a ^^^ b) = twn n a ^^^ twn n b := by
  induction n with
  | zero => rfl
  | succ n ih => show tw (twn n (a ^^^ b)) = tw (twn n a) ^^^ tw (twn n b); rw [ih, tw_xor (twn_lt n ha) (twn_lt n hb)]
theorem mul_xor {a b c : Nat} (ha : a < 256) (hb : b < 256) (hc : c < 256) : mul a (b ^^^ c) = mul a b ^^^ mul a c := by
  by_cases h1 : a = 0
  · subst h1; rw [mul_zero_left, mul_zero_left, mul_zero_left]; rfl
  obtain ⟨n, _, rfl⟩ := is_ex ha h1
  rw [mul_ex n (xor_lt hb hc), mul_ex n hb, mul_ex n hc, twn_xor n hb hc]
theorem mul_one_right {a : Nat} (h : a < 256) : mul a 1 = a := by rw [mul_comm h (by omega), mul_one_left h]
theorem tw_is_mul {a : Nat} (h : a < 256) : mul a 2 = tw a := by
  rw [mul_comm h (by omega)]
  have e : (2 : Nat) = tw 1 := by decide
  rw [e, mul_tw a (by omega), mul_one_left h]

/-! ### Powers -/
def pw (a : Nat) : Nat → Nat
  | 0 => 1
  | n + 1 => mul (pw a n) a
theorem pw_lt {a : Nat} (h : a < 256) : ∀ n, pw a n < 256
  | 0 => by show 1 < 256; omega
  | n + 1 => mul_lt _ (pw_lt h n)
theorem pw_add {a : Nat} (h : a < 256) (n m : Nat) : pw a (n + m) = mul (pw a n) (pw a m) := by
  induction m with
  | zero => show pw a n = mul (pw a n) 1; rw [mul_one_right (pw_lt h n)]
  | succ m ih =>
    show mul (pw a (n + m)) a = mul (pw a n) (mul (pw a m) a)
    rw [ih, mul_assoc (pw_lt h n) (pw_lt h m) h]
theorem pw_sq {a : Nat} (h : a < 256) (n : Nat) : pw (mul a a) n = pw a (2 * n) := by
  induction n with
  | zero => rfl
  | succ n ih =>
    show mul (pw (mul a a) n) (mul a a) = pw a (2 * n + 2)
    rw [ih, pw_add h (2 * n) 2]
    congr 1
    show mul a a = mul (mul 1 a) a
    rw [mul_one_left h]
theorem pw_ex (i n : Nat) : pw (ex i) n = ex (i * n) := by
  induction n with
  | zero => rfl
  | succ n ih => show mul (pw (ex i) n) (ex i) = _; rw [ih, mul_ex_ex, Nat.mul_succ]
theorem pw_255 {a : Nat} (h : a < 256) (h0 : a ≠ 0) : pw a 255 = 1 := by
  obtain ⟨i, _, rfl⟩ := is_ex h h0
  rw [pw_ex, Nat.mul_comm]
  have := ex_add 0 i
  rw [Nat.zero_add] at this
  rw [this]; rfl
theorem pw_mod {a : Nat} (h : a < 256) (h0 : a ≠ 0) (n : Nat) : pw a (n % 255) = pw a n := by
  obtain ⟨i, _, rfl⟩ := is_ex h h0
  rw [pw_ex, pw_ex, ← ex_mod (i * (n % 255)), ← ex_mod (i * n), Nat.mul_mod, Nat.mod_mod, ← Nat.mul_mod]
theorem inv_right {a : Nat} (h : a < 256) (h0 : a ≠ 0) : mul a (pw a 254) = 1 := by
  rw [mul_comm h (pw_lt h _)]; exact pw_255 h h0
theorem inv_left {a : Nat} (h : a < 256) (h0 : a ≠ 0) : mul (pw a 254) a = 1 := pw_255 h h0
theorem inv_unique {a b : Nat} (h : a < 256) (hb : b < 256) (e : mul a b = 1) : b = pw a 254 := by
  by_cases h0 : a = 0
  · subst h0; rw [mul_zero_left] at e; omega
  have e1 : mul (pw a 254) (mul a b) = pw a 254 := by rw [e, mul_one_right (pw_lt h _)]
  rw [← mul_assoc (pw_lt h _) h hb, inv_left h h0, mul_one_left hb] at e1
  exact e1
theorem inv_ne_zero {a : Nat} (h : a < 256) (h0 : a ≠ 0) : pw a 254 ≠ 0 := by
  intro e
  have := inv_left h h0
  rw [e, mul_zero_left] at this
  omega

/-! ### Long multiplication and division of polynomials -/
def cm : Nat → Nat → Nat → Nat → Nat
  | 0, _, _, x => x
  | n + 1, a, b, x => cm n (a * 2) (b / 2) (if b % 2 = 1 then x ^^^ a else x)
/-- Bits n - 1 + 8, .., 8 are taken away. -/
def red : Nat → Nat → Nat
  | 0, x => x
  | n + 1, x => red n (if x.testBit (n + 8) then x ^^^ (285 * 2 ^ n) else x)
theorem sel_xor (a b : Bool) (c : Nat) : (if (a ^^ b) = true then c else 0) = (if a = true then c else 0) ^^^ (if b = true then c else 0) := by
  cases a <;> cases b <;> simp
theorem red_form (n x : Nat) : red (n + 1) x = red n (x ^^^ (if x.testBit (n + 8) = true then 285 * 2 ^ n else 0)) := by
  show red n (if x.testBit (n + 8) then x ^^^ (285 * 2 ^ n) else x) = _
  congr 1
  split <;> simp
theorem red_xor : ∀ (n x y : Nat), red n (x ^^^ y) = red n x ^^^ red n y
  | 0, _, _ => rfl
  | n + 1, x, y => by
    rw [red_form, red_form, red_form, ← red_xor n, Nat.testBit_xor, sel_xor]
    congr 1
    generalize (if x.testBit (n + 8) = true then 285 * 2 ^ n else 0) = u
    generalize (if y.testBit (n + 8) = true then 285 * 2 ^ n else 0) = v
    simp only [Nat.xor_assoc]
    congr 1
    rw [← Nat.xor_assoc, ← Nat.xor_assoc, Nat.xor_comm y u]
theorem red_zero : ∀ n, red n 0 = 0
  | 0 => rfl
  | n + 1 => by rw [red_form]; simp; exact red_zero n
theorem red_tw' : ∀ i < 8, ∀ a < 256, red 7 (a * 2 ^ i) % 256 = twn i a ∧ red 7 (a * 2 ^ i) < 256 := by decide +kernel
theorem xor_mod (x y : Nat) : (x ^^^ y) % 256 = (x % 256) ^^^ (y % 256) := Nat.xor_mod_two_pow (n := 8)
theorem cm_mulL : ∀ (n i a b x : Nat), n + i ≤ 8 → a < 256 → red 7 (cm n (a * 2 ^ i) b x) % 256 = mulL n (twn i a) b (red 7 x % 256)
  | 0, _, _, _, _, _, _ => rfl
  | n + 1, i, a, b, x, h, ha => by
    show red 7 (cm n (a * 2 ^ i * 2) (b / 2) (if b % 2 = 1 then x ^^^ (a * 2 ^ i) else x)) % 256 = mulL n (tw (twn i a)) (b / 2) ((red 7 x % 256) ^^^ (if b % 2 = 1 then twn i a else 0))
    have e : a * 2 ^ i * 2 = a * 2 ^ (i + 1) := by rw [Nat.pow_succ, Nat.mul_assoc]
    rw [e, cm_mulL n (i + 1) a _ _ (by omega) ha]
    congr 1
    split
    · rw [red_xor, xor_mod, (red_tw' i (by omega) a ha).1]
    · rw [Nat.xor_zero]
theorem cm_mul {a : Nat} (b : Nat) (ha : a < 256) : red 7 (cm 8 a b 0) % 256 = mul a b := by
  have := cm_mulL 8 0 a b 0 (by omega) ha
  rw [Nat.pow_zero, Nat.mul_one, red_zero] at this
  exact this
theorem cm_lt : ∀ (n m a b x : Nat), a < 2 ^ m → x < 2 ^ (m + n) → cm n a b x < 2 ^ (m + n)
  | 0, _, _, _, _, _, hx => hx
  | n + 1, m, a, b, x, ha, hx => by
    have hm : m + (n + 1) = (m + 1) + n := by omega
    show cm n (a * 2) (b / 2) (if b % 2 = 1 then x ^^^ a else x) < _
    rw [hm] at hx ⊢
    refine cm_lt n (m + 1) _ _ _ (by rw [Nat.pow_succ]; omega) ?_
    split
    · exact Nat.xor_lt_two_pow hx (Nat.lt_of_lt_of_le ha (Nat.pow_le_pow_right (by omega) (by omega)))
    · exact hx
end Go.Proofs.Ytpogicakpgpkcaa.Gf
