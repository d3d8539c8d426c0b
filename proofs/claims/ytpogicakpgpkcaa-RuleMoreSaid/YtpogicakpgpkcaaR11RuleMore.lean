/- law22.large and law22.within as printed answer. -/
import Derived.Test.YtpogicakpgpkcaaR10RuleMore
namespace Go.Proofs.Ytpogicakpgpkcaa.RRuleMore
open Go.RowKit Go.Proofs.Ytpogicakpgpkcaa.PRuleMore Go.Proofs.YtpogicakpgpkcaaW.PrintWords Go.Proofs.YtpogicakpgpkcaaW.PrintLast Go.Proofs.YtpogicakpgpkcaaW.PrintMore

theorem rdOf_drop (x : List ByteArray) (i : Nat) (hi : i < x.length) : (x.drop i).map ByteArray.toList = (rdOf ByteArray.empty x (i : Int)).toList :: (x.drop (i + 1)).map ByteArray.toList := by
  rw [List.drop_eq_getElem_cons hi, List.map_cons]
  unfold rdOf
  rw [Int.toNat_natCast, List.getD_eq_getElem?_getD, List.getElem?_eq_getElem hi]
  rfl
theorem within_tot (x z : List ByteArray) (hx : x.length < 4611686018427387904) (hz : z.length < 4611686018427387904) : ∀ (m at_ i : Nat), at_ + m = z.length → ((x.drop i).map ByteArray.toList).Sublist ((z.drop at_).map ByteArray.toList) →
    (∀ k, 2 * m + 1 < k → stowagelaw22_within.l0 k x z (at_ : Int) (i : Int) = some true) ∧ (i < x.length → ∀ k, 2 * m < k → stowagelaw22_within.l1 k x z (at_ : Int) (i : Int) = some true) := by
  intro m
  induction m with
  | zero =>
    intro at_ i ha hs
    have hi : ¬ i < x.length := fun hi => by
      have hzd : z.drop at_ = [] := List.drop_of_length_le (by omega)
      rw [rdOf_drop x i hi, hzd, List.map_nil] at hs
      exact absurd (List.sublist_nil.1 hs) (by simp)
    refine ⟨fun k hk => ?_, fun h => absurd h hi⟩
    cases k with
    | zero => omega
    | succ k =>
      rw [stowagelaw22_within.l0, if_neg (by omega)]
  | succ m ih =>
    intro at_ i ha hs
    have L1 : i < x.length → ∀ k, 2 * (m + 1) < k → stowagelaw22_within.l1 k x z (at_ : Int) (i : Int) = some true := by
      intro hi k hk
      cases k with
      | zero => omega
      | succ k =>
        rw [stowagelaw22_within.l1, if_pos (by omega), if_pos (by omega), if_pos (by omega), if_pos (by omega)]
        rw [rdOf_drop x i hi, rdOf_drop z at_ (by omega)] at hs
        by_cases e : (rdOf ByteArray.empty z (at_ : Int)).toList = (rdOf ByteArray.empty x (i : Int)).toList
        · rw [if_pos e, if_neg (by omega), wsucc at_ (by omega), wsucc i (by omega)]
          rw [e] at hs
          exact (ih (at_ + 1) (i + 1) (by omega) (List.cons_sublist_cons.1 hs)).1 k (by omega)
        · rw [if_neg e, wsucc at_ (by omega)]
          have hs2 : ((rdOf ByteArray.empty x (i : Int)).toList :: (x.drop (i + 1)).map ByteArray.toList).Sublist ((z.drop (at_ + 1)).map ByteArray.toList) := by
            rcases List.sublist_cons_iff.1 hs with h | ⟨r, h1, _⟩
            · exact h
            · injection h1 with h1 _
              exact absurd h1.symm e
          rw [← rdOf_drop x i hi] at hs2
          exact (ih (at_ + 1) i (by omega) hs2).2 hi k (by omega)
    refine ⟨fun k hk => ?_, L1⟩
    cases k with
    | zero => omega
    | succ k =>
      rw [stowagelaw22_within.l0]
      by_cases hi : i < x.length
      · rw [if_pos (by omega)]
        exact L1 hi k (by omega)
      · rw [if_neg (by omega)]
theorem within_sub (x z : List ByteArray) (hx : x.length ≤ 100) (hz : z.length ≤ 100) (h : x.Sublist z) : stowagelaw22_within.f 1000 x z = some true :=
  (within_tot x z (by omega) (by omega) z.length 0 0 (Nat.zero_add _) (h.map _)).1 1000 (by omega)

theorem large1_tot (l : List S45) (key : ByteArray) (vs : List S53) (hv : vs.length ≤ 9223372036854775807) : ∀ (m j k : Nat), j + m = vs.length → m < k →
    ∃ b, stowagelaw22_large.l1 k l (j : Int) key vs = some b ∧ (b = false → l.length ≤ 20 ∧ vs.length ≤ 80)
  | _, _, 0, _, h => absurd h (Nat.not_lt_zero _)
  | 0, j, k + 1, hj, _ => by
    rw [stowagelaw22_large.l1, if_neg (by omega)]
    split
    · exact ⟨_, rfl, fun h => by cases h⟩
    · split
      · exact ⟨_, rfl, fun h => by cases h⟩
      · exact ⟨_, rfl, fun _ => by omega⟩
  | m + 1, j, k + 1, hj, h => by
    rw [stowagelaw22_large.l1, if_pos (by omega), if_pos (by omega)]
    split
    · exact ⟨_, rfl, fun h => by cases h⟩
    · rw [wsucc j (by omega)]
      exact large1_tot l key vs hv m (j + 1) k (by omega) (by omega)
theorem large0_tot (l : List S45) (key : ByteArray) (vs : List S53) (hl : l.length ≤ 9223372036854775807) (hv : vs.length ≤ 9223372036854775807) : ∀ (m j k : Nat), j + m = l.length → m + vs.length + 1 < k → (∀ i, i < j → (rd_T45 l (i : Int)).f0.size ≤ 300) →
    ∃ b, stowagelaw22_large.l0 k l (j : Int) key vs = some b ∧ (b = false → (∀ i, i < l.length → (rd_T45 l (i : Int)).f0.size ≤ 300) ∧ l.length ≤ 20 ∧ vs.length ≤ 80)
  | _, _, 0, _, h, _ => absurd h (Nat.not_lt_zero _)
  | 0, j, k + 1, hj, h, hi => by
    rw [stowagelaw22_large.l0, if_neg (by omega)]
    obtain ⟨b, hb, hb2⟩ := large1_tot l key vs hv vs.length 0 k (Nat.zero_add _) (by omega)
    exact ⟨b, hb, fun e => ⟨fun i h => hi i (by omega), hb2 e⟩⟩
  | m + 1, j, k + 1, hj, h, hi => by
    rw [stowagelaw22_large.l0, if_pos (by omega), if_pos (by omega)]
    split
    · exact ⟨_, rfl, fun h => by cases h⟩
    · rw [wsucc j (by omega)]
      refine large0_tot l key vs hl hv m (j + 1) k (by omega) (by omega) (fun i hlt => ?_)
      by_cases e : i = j
      · subst e; omega
      · exact hi i (by omega)
/-- What law22.large tells: false only at lists of some length. -/
theorem large_tot (l : List S45) (key : ByteArray) (vs : List S53) (hl : l.length ≤ 9223372036854775807) (hv : vs.length ≤ 9223372036854775807) :
    ∃ k b, stowagelaw22_large.f k l key vs = some b ∧ (b = false → (∀ r ∈ l, r.f0.size ≤ 300) ∧ l.length ≤ 20 ∧ vs.length ≤ 80) := by
  obtain ⟨b, hb, h⟩ := large0_tot l key vs hl hv l.length 0 (l.length + vs.length + 2) (Nat.zero_add _) (by omega) (fun i h => absurd h (Nat.not_lt_zero _))
  refine ⟨_, b, hb, fun e => ⟨fun r hr => ?_, (h e).2⟩⟩
  obtain ⟨i, hi, rfl⟩ := List.getElem_of_mem hr
  have := (h e).1 i hi
  unfold rd_T45 at this
  rwa [Int.toNat_natCast, List.getD_eq_getElem?_getD, List.getElem?_eq_getElem hi] at this
end Go.Proofs.Ytpogicakpgpkcaa.RRuleMore
