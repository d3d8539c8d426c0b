/- Bit operations of the model at small natural numbers. -/
import Derived.Test.YtpogicakpgpkcaaGfMath
import Derived.Test.YtpogicakpgpkcaaWMore
import Derived.Laws.Bits64
import Derived.Laws.Bits64b
import Derived.OpenShut
namespace Go.Proofs.Ytpogicakpgpkcaa.Gf
open Go.RowKit Go.Proofs.YtpogicakpgpkcaaW.PrintWords

theorem xor_u8 (a b : Nat) (ha : a < 256) (hb : b < 256) : Go.bits .xor .u8 (a : Int) (b : Int) = ((a ^^^ b : Nat) : Int) := by
  have hx : a ^^^ b < 2 ^ 8 := Nat.xor_lt_two_pow (by omega) (by omega)
  have h1 : (BitVec.ofInt 8 (a : Int)).toNat = a := by
    rw [BitVec.ofInt_natCast, BitVec.toNat_ofNat]; exact Nat.mod_eq_of_lt (by omega)
  have h2 : (BitVec.ofInt 8 (b : Int)).toNat = b := by
    rw [BitVec.ofInt_natCast, BitVec.toNat_ofNat]; exact Nat.mod_eq_of_lt (by omega)
  show IntKind.u8.wrap ((BitVec.ofInt 8 (a : Int) ^^^ BitVec.ofInt 8 (b : Int)).toNat : Int) = _
  rw [BitVec.toNat_xor, h1, h2, IntKind.wrap_u8]
  omega
theorem and_u8 (a b : Nat) (ha : a < 256) (hb : b < 256) : Go.bits .and .u8 (a : Int) (b : Int) = ((a &&& b : Nat) : Int) :=
  (bits_nat .u8 8 (by decide) (fun n h h' => wraps_u8 n h h') a b (by omega) (by omega)).1
theorem xor_i64 (a b : Nat) (ha : a < 2 ^ 40) (hb : b < 2 ^ 40) : Go.bits .xor .i64 (a : Int) (b : Int) = ((a ^^^ b : Nat) : Int) := by
  have hx : a ^^^ b < 2 ^ 40 := Nat.xor_lt_two_pow (by omega) (by omega)
  have h1 : (BitVec.ofInt 64 (a : Int)).toNat = a := by
    rw [BitVec.ofInt_natCast, BitVec.toNat_ofNat]; exact Nat.mod_eq_of_lt (by omega)
  have h2 : (BitVec.ofInt 64 (b : Int)).toNat = b := by
    rw [BitVec.ofInt_natCast, BitVec.toNat_ofNat]; exact Nat.mod_eq_of_lt (by omega)
  show IntKind.i64.wrap ((BitVec.ofInt 64 (a : Int) ^^^ BitVec.ofInt 64 (b : Int)).toNat : Int) = _
  rw [BitVec.toNat_xor, h1, h2, IntKind.wrap_i64]
  omega
theorem and_i64 (a b : Nat) (ha : a < 2 ^ 40) (hb : b < 2 ^ 40) : Go.bits .and .i64 (a : Int) (b : Int) = ((a &&& b : Nat) : Int) :=
  (bits_nat .i64 40 (by decide) (fun n h h' => by rw [IntKind.wrap_i64]; omega) a b ha hb).1
theorem and_u64 (a b : Nat) (ha : a < 2 ^ 40) (hb : b < 2 ^ 40) : Go.bits .and .u64 (a : Int) (b : Int) = ((a &&& b : Nat) : Int) :=
  (bits_nat .u64 40 (by decide) (fun n h h' => by rw [IntKind.wrap_u64]; omega) a b ha hb).1
theorem one_u8 (b : Nat) (hb : b < 256) : Go.bits .and .u8 (b : Int) 1 = ((b % 2 : Nat) : Int) := by
  have := and_u8 b 1 hb (by omega)
  rw [Nat.and_one_is_mod] at this
  exact this
theorem one_u64 (b : Nat) (hb : b < 2 ^ 40) : Go.bits .and .u64 (b : Int) 1 = ((b % 2 : Nat) : Int) := by
  have := and_u64 b 1 hb (by omega)
  rw [Nat.and_one_is_mod] at this
  exact this
theorem one_i64 (b : Nat) (hb : b < 2 ^ 40) : Go.bits .and .i64 (b : Int) 1 = ((b % 2 : Nat) : Int) := by
  have := and_i64 b 1 hb (by omega)
  rw [Nat.and_one_is_mod] at this
  exact this
/-- a & -(b & 1): a, if b is odd. -/
theorem pick_u8 (a b : Nat) (ha : a < 256) (hb : b < 256) : Go.bits .and .u8 (a : Int) ((-(Go.bits .and .u8 (b : Int) 1)) % 256) = ((if b % 2 = 1 then a else 0 : Nat) : Int) := by
  rw [one_u8 b hb]
  by_cases h : b % 2 = 1
  · rw [if_pos h, h]
    have e : ((-((1 : Nat) : Int)) % 256) = ((255 : Nat) : Int) := by decide
    rw [e, and_u8 a 255 ha (by omega)]
    have : a &&& 255 = a % 256 := Nat.and_two_pow_sub_one_eq_mod a 8
    rw [this, Nat.mod_eq_of_lt ha]
  · rw [if_neg h]
    have h0 : b % 2 = 0 := by omega
    rw [h0]
    have e : ((-((0 : Nat) : Int)) % 256) = ((0 : Nat) : Int) := by decide
    rw [e, and_u8 a 0 ha (by omega), Nat.and_zero]
theorem tw_u8 (a : Nat) (ha : a < 256) : Go.bits .xor .u8 (((a : Int) * 2) % 256) ((((a : Int) / 128) * 29) % 256) = ((tw a : Nat) : Int) := by
  have e1 : ((a : Int) * 2) % 256 = ((a * 2 % 256 : Nat) : Int) := by omega
  have e2 : (((a : Int) / 128) * 29) % 256 = ((a / 128 * 29 : Nat) : Int) := by omega
  rw [e1, e2, xor_u8 _ _ (by omega) (by omega)]; rfl
theorem half (b : Nat) : (b : Int) / 2 = ((b / 2 : Nat) : Int) := by omega
/-- x >> i of a byte, its last bit. -/
theorem bit_u8 (b i : Nat) (hb : b < 256) (hi : i ≤ 8) : Go.bits .and .u8 (shr .u8 (b : Int) (i : Int)) 1 = ((b / 2 ^ i % 2 : Nat) : Int) := by
  have e : shr .u8 (b : Int) (i : Int) = ((b / 2 ^ i : Nat) : Int) := by
    unfold shr
    rw [Int.toNat_natCast, Nat.min_eq_left (by show i ≤ 8; exact hi)]
    simp
  rw [e]
  exact one_u8 _ (Nat.lt_of_le_of_lt (Nat.div_le_self _ _) hb)
theorem bit_i64 (x i : Nat) (hx : x < 2 ^ 40) (hi : i ≤ 64) : Go.bits .and .i64 (shr .i64 (x : Int) (i : Int)) 1 = ((x / 2 ^ i % 2 : Nat) : Int) := by
  have e : shr .i64 (x : Int) (i : Int) = ((x / 2 ^ i : Nat) : Int) := by
    unfold shr
    rw [Int.toNat_natCast, Nat.min_eq_left (by show i ≤ 64; exact hi)]
    simp
  rw [e]
  exact one_i64 _ (Nat.lt_of_le_of_lt (Nat.div_le_self _ _) hx)
theorem shl_i64 (x i : Nat) (h : x * 2 ^ i < 2 ^ 40) (hi : i ≤ 64) : shl .i64 (x : Int) (i : Int) = ((x * 2 ^ i : Nat) : Int) := by
  unfold shl
  rw [Int.toNat_natCast, Nat.min_eq_left (by show i ≤ 64; exact hi)]
  have e : ((x : Int) * 2 ^ i) = ((x * 2 ^ i : Nat) : Int) := by simp
  rw [e, IntKind.wrap_i64]
  generalize x * 2 ^ i = y at h
  omega
theorem wrap64_small (x : Int) (h0 : -9223372036854775808 ≤ x) (h1 : x ≤ 9223372036854775807) : wrap64 x = x := by unfold wrap64; omega
theorem testBit_iff (x i : Nat) : (x / 2 ^ i % 2 = 1) ↔ x.testBit i = true := by
  rw [Nat.testBit_eq_decide_div_mod_eq, decide_eq_true_eq]
end Go.Proofs.Ytpogicakpgpkcaa.Gf
