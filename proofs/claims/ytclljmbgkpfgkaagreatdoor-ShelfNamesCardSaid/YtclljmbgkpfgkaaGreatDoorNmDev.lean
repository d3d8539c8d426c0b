/- Names and numbers, told in two ways: no program in sight. -/
import Derived.Test.YtclljmbgkpfgkaaGreatDoorXG
set_option linter.unusedSimpArgs false
set_option linter.unusedVariables false
namespace Go.Proofs.YtclljmbgkpfgkaaGreatDoor.Nm
open Go Go.RowKit Go.Proofs.YtclljmbgkpfgkaaGreatDoor.X
/-- a small letter or a digit -/
def smallN (c : Nat) : Bool := (decide (97 ≤ c) && decide (c ≤ 122)) || (decide (48 ≤ c) && decide (c ≤ 57))
/-- the program's way through a name: is what is ahead a dot or the beginning, is it a dash -/
def mB : Bool → Bool → List Nat → Bool
  | dot, dash, [] => !dot && !dash
  | dot, dash, c :: l => if smallN c = true then mB false false l else if c = 46 then (if dot = true then false else if dash = true then false else mB true false l) else if c = 45 then (if dot = true then false else mB false true l) else false
/-- the document's -/
def okN (c : Nat) : Bool := smallN c || (decide (c = 45) || decide (c = 46))
def pairN (p c : Nat) : Bool := !((decide (c = 46) && !smallN p) || (decide (p = 46) && !smallN c))
def rB : Nat → List Nat → Bool
  | _, [] => true
  | p, c :: l => (okN c && pairN p c) && rB c l
def lastN : Nat → List Nat → Nat
  | p, [] => p
  | _, c :: l => lastN c l
theorem small46 : smallN 46 = false := by decide
theorem small45 : smallN 45 = false := by decide
theorem m_eq : ∀ (l : List Nat) (p : Nat), okN p = true → mB (decide (p = 46)) (decide (p = 45)) l = (rB p l && smallN (lastN p l))
  | [], p, h => by
    unfold mB rB lastN
    by_cases h1 : p = 46
    · subst h1; decide
    · by_cases h2 : p = 45
      · subst h2; decide
      · simp [okN, h1, h2] at h
        simp [h1, h2, h]
  | c :: l, p, h => by
    rw [mB, rB, lastN]
    by_cases hs : smallN c = true
    · have h1 : c ≠ 46 := by rintro rfl; rw [small46] at hs; cases hs
      have h2 : c ≠ 45 := by rintro rfl; rw [small45] at hs; cases hs
      have ih := m_eq l c (by simp [okN, hs])
      rw [decide_eq_false h1, decide_eq_false h2] at ih
      rw [if_pos hs, ih]
      simp [okN, pairN, hs, h1]
    · have hs' : smallN c = false := by simpa using hs
      rw [if_neg hs]
      by_cases h1 : c = 46
      · subst h1
        have ih := m_eq l 46 (by decide)
        rw [show decide (46 = 46) = true by decide, show decide (46 = 45) = false by decide] at ih
        rw [if_pos rfl, ih]
        by_cases h3 : p = 46
        · subst h3; simp [pairN, small46]
        · by_cases h4 : p = 45
          · subst h4; simp [pairN, small45]
          · simp [okN, h3, h4] at h
            simp [pairN, okN, h3, h4, h]
      · by_cases h2 : c = 45
        · subst h2
          have ih := m_eq l 45 (by decide)
          rw [show decide (45 = 46) = false by decide, show decide (45 = 45) = true by decide] at ih
          rw [if_neg h1, if_pos rfl, ih]
          by_cases h3 : p = 46
          · subst h3; simp [pairN, small45]
          · simp [pairN, okN, h3, small45]
        · rw [if_neg h1, if_neg h2]
          simp [okN, hs', h1, h2]
/-- the document's whole walk is the program's -/
theorem bucket_eq (c : Nat) (l : List Nat) : mB true false (c :: l) = (smallN c && (smallN (lastN c l) && (okN c && rB c l))) := by
  rw [mB]
  by_cases hs : smallN c = true
  · have h1 : c ≠ 46 := by rintro rfl; rw [small46] at hs; cases hs
    have h2 : c ≠ 45 := by rintro rfl; rw [small45] at hs; cases hs
    have ih := m_eq l c (by simp [okN, hs])
    rw [decide_eq_false h1, decide_eq_false h2] at ih
    rw [if_pos hs, ih]
    simp [okN, hs, Bool.and_comm]
  · have hs' : smallN c = false := by simpa using hs
    rw [if_neg hs, hs']
    simp
/-! numbers of sixteen digits -/
def wide : Nat → Nat → List UInt8
  | 0, _ => []
  | k + 1, u => wide k (u / 16) ++ [hexD (u % 16)]
def fmtL : Nat → Nat → List UInt8 → List UInt8
  | 0, u, acc => hexD u :: acc
  | f + 1, u, acc => if u < 16 then hexD u :: acc else fmtL f (u / 16) (hexD (u % 16) :: acc)
theorem wide_zero : ∀ k, wide k 0 = List.replicate k 48
  | 0 => rfl
  | k + 1 => by
    rw [wide, Nat.zero_div, wide_zero k, List.replicate_succ']
    rfl
theorem fmt_wide : ∀ (k u : Nat) (acc : List UInt8) (f : Nat), u < 16 ^ (k + 1) → k ≤ f → ∃ z, z + (fmtL f u acc).length = k + 1 + acc.length ∧ List.replicate z 48 ++ fmtL f u acc = wide (k + 1) u ++ acc
  | 0, u, acc, f, hu, _ => by
    have hu : u < 16 := by simpa using hu
    have e : fmtL f u acc = hexD u :: acc := by cases f <;> simp [fmtL, hu]
    rw [e]
    exact ⟨0, by simp; omega, by simp [wide, Nat.mod_eq_of_lt hu]⟩
  | k + 1, u, acc, f, hu, hf => by
    by_cases h : u < 16
    · have e : fmtL f u acc = hexD u :: acc := by cases f <;> simp [fmtL, h]
      rw [e]
      refine ⟨k + 1, by simp; omega, ?_⟩
      rw [wide, Nat.div_eq_of_lt h, wide_zero, Nat.mod_eq_of_lt h]
      simp
    · obtain ⟨f, rfl⟩ : ∃ q, f = q + 1 := ⟨f - 1, by omega⟩
      have e : fmtL (f + 1) u acc = fmtL f (u / 16) (hexD (u % 16) :: acc) := by rw [fmtL, if_neg h]
      rw [e]
      obtain ⟨z, h1, h2⟩ := fmt_wide k (u / 16) (hexD (u % 16) :: acc) f (by rw [Nat.pow_succ] at hu; omega) (by omega)
      refine ⟨z, by simp at h1 ⊢; omega, ?_⟩
      rw [h2, show wide (k + 1 + 1) u = wide (k + 1) (u / 16) ++ [hexD (u % 16)] from rfl]
      simp
def eightL (u : Nat) : List Nat := [u / 72057594037927936 % 256, u / 281474976710656 % 256, u / 1099511627776 % 256, u / 4294967296 % 256, u / 16777216 % 256, u / 65536 % 256, u / 256 % 256, u % 256]
theorem wide_eight (u : Nat) (h : u < 18446744073709551616) : wide 16 u = hexL (eightL u) := by
  simp only [wide, eightL, hexL, List.nil_append, List.cons_append, Nat.div_div_eq_div_mul, Nat.reduceMul, List.cons.injEq, and_true]
  refine ⟨?_, ?_, ?_, ?_, ?_, ?_, ?_, ?_, ?_, ?_, ?_, ?_, ?_, ?_, ?_, ?_⟩
  all_goals refine congrArg hexD ?_
  all_goals first
    | (show _ = (_ % 256) / 16; omega)
    | (show _ = (_ % 256) % 16; omega)
theorem bytes_inj {s t : ByteArray} (h : bytesL s = bytesL t) : s = t := by
  have h : s.data.toList = t.data.toList := h
  cases s; cases t
  congr 1
  exact Array.toList_inj.1 h
end Go.Proofs.YtclljmbgkpfgkaaGreatDoor.Nm
