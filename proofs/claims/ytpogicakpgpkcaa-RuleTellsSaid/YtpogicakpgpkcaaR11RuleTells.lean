/- law22.large and law22.within as printed answer. -/
import Derived.Test.YtpogicakpgpkcaaR10RuleTells
namespace Go.Proofs.Ytpogicakpgpkcaa.RRuleTells
open Go.RowKit Go.Proofs.Ytpogicakpgpkcaa.PRuleTells Go.Proofs.YtpogicakpgpkcaaW.PrintWords Go.Proofs.YtpogicakpgpkcaaW.PrintLast Go.Proofs.YtpogicakpgpkcaaW.PrintMore

theorem large1_tot (l : List S45) (key : ByteArray) (vs : List S53) (hv : vs.length ≤ 9223372036854775807) : ∀ (m j k : Nat), j + m = vs.length → m < k →
    ∃ b, stowagelaw22_large.l1 k l (j : Int) key vs = some b ∧ (b = false → l.length ≤ 20 ∧ vs.length ≤ 80)
  | _, _, 0, _, h => absurd h (Nat.not_lt_zero _)
  | 0, j, k + 1, hj, _ => by
    rw [stowagelaw22_large.l1, if_neg (by omega)]
    split
    · exact ⟨_, rfl, fun h => by cases h⟩
    · split
      · exact ⟨_, rfl, fun h => by cases h⟩
      · exact ⟨_, rfl, fun _ => by omega⟩
  | m + 1, j, k + 1, hj, h => by
    rw [stowagelaw22_large.l1, if_pos (by omega), if_pos (by omega)]
    split
    · exact ⟨_, rfl, fun h => by cases h⟩
    · rw [wsucc j (by omega)]
      exact large1_tot l key vs hv m (j + 1) k (by omega) (by omega)
theorem large0_tot (l : List S45) (key : ByteArray) (vs : List S53) (hl : l.length ≤ 9223372036854775807) (hv : vs.length ≤ 9223372036854775807) : ∀ (m j k : Nat), j + m = l.length → m + vs.length + 1 < k → (∀ i, i < j → (rd_T45 l (i : Int)).f0.size ≤ 300) →
    ∃ b, stowagelaw22_large.l0 k l (j : Int) key vs = some b ∧ (b = false → (∀ i, i < l.length → (rd_T45 l (i : Int)).f0.size ≤ 300) ∧ l.length ≤ 20 ∧ vs.length ≤ 80)
  | _, _, 0, _, h, _ => absurd h (Nat.not_lt_zero _)
  | 0, j, k + 1, hj, h, hi => by
    rw [stowagelaw22_large.l0, if_neg (by omega)]
    obtain ⟨b, hb, hb2⟩ := large1_tot l key vs hv vs.length 0 k (Nat.zero_add _) (by omega)
    exact ⟨b, hb, fun e => ⟨fun i h => hi i (by omega), hb2 e⟩⟩
  | m + 1, j, k + 1, hj, h, hi => by
    rw [stowagelaw22_large.l0, if_pos (by omega), if_pos (by omega)]
    split
    · exact ⟨_, rfl, fun h => by cases h⟩
    · rw [wsucc j (by omega)]
      refine large0_tot l key vs hl hv m (j + 1) k (by omega) (by omega) (fun i hlt => ?_)
      by_cases e : i = j
      · subst e; omega
      · exact hi i (by omega)
/-- What law22.large tells: false only at lists of some length. -/
theorem large_tot (l : List S45) (key : ByteArray) (vs : List S53) (hl : l.length ≤ 9223372036854775807) (hv : vs.length ≤ 9223372036854775807) :
    ∃ k b, stowagelaw22_large.f k l key vs = some b ∧ (b = false → (∀ r ∈ l, r.f0.size ≤ 300) ∧ l.length ≤ 20 ∧ vs.length ≤ 80) := by
  obtain ⟨b, hb, h⟩ := large0_tot l key vs hl hv l.length 0 (l.length + vs.length + 2) (Nat.zero_add _) (by omega) (fun i h => absurd h (Nat.not_lt_zero _))
  refine ⟨_, b, hb, fun e => ⟨fun r hr => ?_, (h e).2⟩⟩
  obtain ⟨i, hi, rfl⟩ := List.getElem_of_mem hr
  have := (h e).1 i hi
  unfold rd_T45 at this
  rwa [Int.toNat_natCast, List.getD_eq_getElem?_getD, List.getElem?_eq_getElem hi] at this
end Go.Proofs.Ytpogicakpgpkcaa.RRuleTells
