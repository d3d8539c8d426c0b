/- The place of a byte in a text, by the kit's contract of strings.IndexByte. No statement of the seat stands here. -/
import Derived.Test.YtclljmbgkpfgkaaGreatDoorChecked
import Derived.Test.YtclljmbgkpfgkaaGreatDoorShelf
import Derived.Test.YtclljmbgkpfgkaaGreatDoorXG
set_option linter.unusedSimpArgs false
set_option linter.unusedVariables false
namespace Go.Proofs.YtclljmbgkpfgkaaGreatDoor.IndexDev
open Go Go.RowKit Go.Proofs.YtclljmbgkpfgkaaGreatDoor.X
theorem byte_eq (b : UInt8) (m : Nat) (hm : m < 256) : (b == m.toUInt8) = Nat.beq b.toNat m := by
  have e : m.toUInt8.toNat = m := by simp [Nat.toUInt8, UInt8.toNat_ofNat, Nat.mod_eq_of_lt hm]
  by_cases h : b.toNat = m
  · subst h
    simp
  · have h1 : Nat.beq b.toNat m = false := by
      cases hx : Nat.beq b.toNat m with
      | false => rfl
      | true => exact absurd (Nat.eq_of_beq_eq_true hx) h
    rw [h1]
    refine beq_false_of_ne fun e2 => h ?_
    rw [e2, e]
theorem idx_eq (m : Nat) (hm : m < 256) : ∀ (l : List UInt8) (i : Nat), idxL m l i = if Lib.indexByte l m.toUInt8 == -1 then -1 else Lib.indexByte l m.toUInt8 + i
  | [], i => by simp [idxL, Lib.indexByte]
  | b :: l, i => by
    have ih := idx_eq m hm l (i + 1)
    have hge := Lib.indexByte_ge l m.toUInt8
    simp only [idxL, Lib.indexByte, byte_eq b m hm]
    cases hb : Nat.beq b.toNat m with
    | true => simp
    | false =>
      simp only [Nat.succ_eq_add_one, ih]
      by_cases h : Lib.indexByte l m.toUInt8 = -1
      · simp [h]
      · have h2 : (Lib.indexByte l m.toUInt8 == -1) = false := beq_false_of_ne h
        have h3 : (Lib.indexByte l m.toUInt8 + 1 == -1) = false := beq_false_of_ne (by omega)
        simp [h2, h3]
        omega
theorem index_spec : FlatSpec Tryz.prog 81 indexG := by
  intro args v w hg
  obtain ⟨b, m, rfl, hm, rfl⟩ : ∃ (b : ByteArray) (m : Nat), args = [.string b, .int .u8 (.ofNat m)] ∧ m < 256 ∧ v = .int .i64 (idxL m (bytesL b) 0) := by
    unfold indexG at hg
    split at hg
    · split at hg
      · split at hg
        · split at hg
          · split at hg
            · split at hg
              · rename_i b _ _ _ m _ hc
                injection hg with hg
                exact ⟨b, m, rfl, by rw [Nat.blt_eq] at hc; exact hc, hg.symm⟩
              · cases hg
            · cases hg
          · cases hg
        · cases hg
      · cases hg
    · cases hg
  refine (Tryz.strings_IndexByte b (.ofNat m) w).mono ?_
  rintro e w' ⟨rfl, rfl⟩
  refine ⟨?_, Below.refl _ _⟩
  congr 2
  rw [idx_eq m hm]
  show Lib.indexByte b.data.toList (Int.toNat (.ofNat m)).toUInt8 = if Lib.indexByte b.data.toList m.toUInt8 == -1 then -1 else Lib.indexByte b.data.toList m.toUInt8 + ((0 : Nat) : Int)
  have h := Lib.indexByte_ge b.data.toList m.toUInt8
  rw [show Int.toNat (.ofNat m) = m from rfl]
  by_cases h : Lib.indexByte b.data.toList m.toUInt8 = -1
  · simp [h]
  · have h2 : (Lib.indexByte b.data.toList m.toUInt8 == -1) = false := beq_false_of_ne h
    simp [h2]
theorem lite_spec : FlatSpec Tryz.prog 130 indexG := by
  intro args v w hg
  obtain ⟨b, m, rfl, hm, rfl⟩ : ∃ (b : ByteArray) (m : Nat), args = [.string b, .int .u8 (.ofNat m)] ∧ m < 256 ∧ v = .int .i64 (idxL m (bytesL b) 0) := by
    unfold indexG at hg
    split at hg
    · split at hg
      · split at hg
        · split at hg
          · split at hg
            · split at hg
              · rename_i b _ _ _ m _ hc
                injection hg with hg
                exact ⟨b, m, rfl, by rw [Nat.blt_eq] at hc; exact hc, hg.symm⟩
              · cases hg
            · cases hg
          · cases hg
        · cases hg
      · cases hg
    · cases hg
  refine (Tryz.stringslite_IndexByte b (.ofNat m) w).mono ?_
  rintro e w' ⟨rfl, rfl⟩
  refine ⟨?_, Below.refl _ _⟩
  congr 2
  rw [idx_eq m hm]
  show Lib.indexByte b.data.toList (Int.toNat (.ofNat m)).toUInt8 = if Lib.indexByte b.data.toList m.toUInt8 == -1 then -1 else Lib.indexByte b.data.toList m.toUInt8 + ((0 : Nat) : Int)
  have h := Lib.indexByte_ge b.data.toList m.toUInt8
  rw [show Int.toNat (.ofNat m) = m from rfl]
  by_cases h : Lib.indexByte b.data.toList m.toUInt8 = -1
  · simp [h]
  · have h2 : (Lib.indexByte b.data.toList m.toUInt8 == -1) = false := beq_false_of_ne h
    simp [h2]
end Go.Proofs.YtclljmbgkpfgkaaGreatDoor.IndexDev
