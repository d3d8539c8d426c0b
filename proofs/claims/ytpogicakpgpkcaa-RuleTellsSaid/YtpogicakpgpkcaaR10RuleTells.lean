/- What is asked is told: rule.asked, law22.large, law22.within as printed answer at all lists of some length. -/
import Derived.Test.YtpogicakpgpkcaaR9RuleTells
namespace Go.Proofs.Ytpogicakpgpkcaa.RRuleTells
open Go.RowKit Go.Proofs.Ytpogicakpgpkcaa.PRuleTells Go.Proofs.YtpogicakpgpkcaaW.PrintWords Go.Proofs.YtpogicakpgpkcaaW.PrintLast Go.Proofs.YtpogicakpgpkcaaW.PrintMore

theorem wsucc (j : Nat) (h : j < 9223372036854775807) : wrap64 ((j : Int) + 1) = ((j + 1 : Nat) : Int) := by
  rw [IntWalk.wrap64_in _ ⟨by omega, by omega⟩]; omega
theorem may_tot (s : ByteArray) (d o : Int) (hs : s.size < 4611686018427387904) : ∀ (m j k : Nat), j + m = s.size → m < k →
    ∃ b, rule_may.l0 k (s.size : Int) (j : Int) s d o = some b ∧ (b = true → 0 ≤ d ∧ d ≤ 10000 ∧ 0 ≤ o ∧ o ≤ 10000)
  | _, _, 0, _, h => absurd h (Nat.not_lt_zero _)
  | 0, j, k + 1, hj, _ => by
    unfold rule_may.l0
    rw [if_neg (by omega)]
    split
    · split
      · split
        · split
          · split
            · split
              · exact ⟨_, rfl, fun _ => by omega⟩
              · exact ⟨_, rfl, fun _ => by omega⟩
            · exact ⟨_, rfl, fun h => by cases h⟩
          · exact ⟨_, rfl, fun h => by cases h⟩
        · exact ⟨_, rfl, fun h => by cases h⟩
      · exact ⟨_, rfl, fun h => by cases h⟩
    · exact ⟨_, rfl, fun h => by cases h⟩
  | m + 1, j, k + 1, hj, h => by
    unfold rule_may.l0
    rw [if_pos (by omega), if_pos (by omega), if_pos (by omega)]
    split
    · exact ⟨_, rfl, fun h => by cases h⟩
    · split
      · exact ⟨_, rfl, fun h => by cases h⟩
      · rw [wsucc j (by omega)]
        exact may_tot s d o hs m (j + 1) k (by omega) (by omega)
theorem check_tot (l : List S45) (N : Nat) (hN : N < 4611686018427387904) (hs : ∀ r ∈ l, r.f0.size < N) (hl : l.length < N) : ∀ (m j k : Nat), j + m = l.length → m + N < k → (∀ i, i < j → RuleOk (rd_T45 l (i : Int))) →
    ∃ r, rule_Check.l0 k l (l.length : Int) (j : Int) = some r ∧ (r = 0 → ∀ i, i < l.length → RuleOk (rd_T45 l (i : Int)))
  | _, _, 0, _, h, _ => absurd h (Nat.not_lt_zero _)
  | 0, j, k + 1, hj, _, hi => by
    unfold rule_Check.l0
    rw [if_neg (by omega)]
    exact ⟨_, rfl, fun _ i h => hi i (by omega)⟩
  | m + 1, j, k + 1, hj, h, hi => by
    unfold rule_Check.l0
    rw [if_pos (by omega), if_pos (by omega), if_pos (by omega)]
    have hmem : rd_T45 l (j : Int) ∈ l := by
      unfold rd_T45; rw [Int.toNat_natCast, List.getD_eq_getElem?_getD, List.getElem?_eq_getElem (by omega)]; exact List.getElem_mem _
    have hsz := hs _ hmem
    obtain ⟨b, hb, hbt⟩ := may_tot (rd_T45 l (j : Int)).f0 (rd_T45 l (j : Int)).f1 (rd_T45 l (j : Int)).f2 (by omega) _ 0 k (Nat.zero_add _) (by omega)
    unfold rule_may.f
    have hb' : rule_may.l0 k ((rd_T45 l (j : Int)).f0.size : Int) 0 (rd_T45 l (j : Int)).f0 (rd_T45 l (j : Int)).f1 (rd_T45 l (j : Int)).f2 = some b := hb
    rw [hb']
    simp only [Option.bind_some]
    split
    · rename_i ht
      rw [wsucc j (by omega)]
      refine check_tot l N hN hs hl m (j + 1) k (by omega) (by omega) (fun i hlt => ?_)
      by_cases e : i = j
      · subst e; exact hbt ht
      · exact hi i (by omega)
    · exact ⟨_, rfl, fun h => by cases h⟩
theorem asked_l_tot (vs : List S53) (key : ByteArray) (hl : vs.length < 4611686018427387904) : ∀ (m j k : Nat), j + m = vs.length → m < k → (∀ i, i < j → 0 ≤ (rd_T53 vs (i : Int)).f1 ∧ (rd_T53 vs (i : Int)).f1 ≤ 1048576) →
    ∃ r, rule_asked.l0 k vs (vs.length : Int) (j : Int) key vs = some r ∧ (r = 0 → vs.length ≤ 64 ∧ ∀ i, i < vs.length → 0 ≤ (rd_T53 vs (i : Int)).f1 ∧ (rd_T53 vs (i : Int)).f1 ≤ 1048576)
  | _, _, 0, _, h, _ => absurd h (Nat.not_lt_zero _)
  | 0, j, k + 1, hj, _, hi => by
    unfold rule_asked.l0
    rw [if_neg (by omega)]
    split
    · exact ⟨_, rfl, fun h => by cases h⟩
    · exact ⟨_, rfl, fun _ => ⟨by omega, fun i h => hi i (by omega)⟩⟩
  | m + 1, j, k + 1, hj, h, hi => by
    unfold rule_asked.l0
    rw [if_pos (by omega), if_pos (by omega), if_pos (by omega)]
    split
    · exact ⟨_, rfl, fun h => by cases h⟩
    · split
      · exact ⟨_, rfl, fun h => by cases h⟩
      · rw [wsucc j (by omega)]
        refine asked_l_tot vs key hl m (j + 1) k (by omega) (by omega) (fun i hlt => ?_)
        by_cases e : i = j
        · subst e; omega
        · exact hi i (by omega)
theorem j0_eq (k : Nat) (b : Bool) (key : ByteArray) (vs : List S53) : rule_asked.j0 (k + 1) b key vs = if b = true then some 2 else rule_asked.l0 k vs (vs.length : Int) 0 key vs := by rw [rule_asked.j0]
/-- What rule.asked tells, at lists of some length. -/
theorem asked_tot (l : List S45) (key : ByteArray) (vs : List S53) (now : Int) (hs : ∀ r ∈ l, r.f0.size ≤ 300) (hl : l.length ≤ 30) (hv : vs.length ≤ 80) :
    ∃ r, rule_asked.f 1000 l key vs now = some r ∧ (r = 0 → Good l vs ∧ 0 ≤ now ∧ now ≤ 2097152 ∧ l.length ≤ 8 ∧ vs.length ≤ 64) := by
  unfold rule_asked.f rule_Check.f
  by_cases h8 : (l.length : Int) > 8
  · rw [if_pos h8]
    simp only [Option.bind_some]
    rw [if_neg (by decide)]
    exact ⟨_, rfl, fun h => by cases h⟩
  · rw [if_neg h8]
    obtain ⟨r1, h1, h2⟩ := check_tot l 400 (by omega) (fun r h => by have := hs r h; omega) (by omega) _ 0 1000 (Nat.zero_add _) (by omega) (fun i h => absurd h (Nat.not_lt_zero _))
    have h1' : rule_Check.l0 1000 l (l.length : Int) 0 = some r1 := h1
    rw [h1']
    simp only [Option.bind_some]
    split
    · rename_i h0
      have hok := h2 h0
      have hrules : ∀ r ∈ l, RuleOk r := fun r hr => by
        obtain ⟨i, hi, rfl⟩ := List.getElem_of_mem hr
        have := hok i hi
        unfold rd_T45 at this
        rwa [Int.toNat_natCast, List.getD_eq_getElem?_getD, List.getElem?_eq_getElem hi] at this
      by_cases hneg : now < 0
      · rw [if_pos hneg, j0_eq 999, if_pos rfl]; exact ⟨_, rfl, fun h => by cases h⟩
      · rw [if_neg hneg, j0_eq 999]
        by_cases hbig : now > 2097152
        · rw [if_pos (by simpa using hbig)]; exact ⟨_, rfl, fun h => by cases h⟩
        · rw [if_neg (by simp; omega)]
          obtain ⟨r2, h3, h4⟩ := asked_l_tot vs key (by omega) _ 0 999 (Nat.zero_add _) (by omega) (fun i h => absurd h (Nat.not_lt_zero _))
          have h3' : rule_asked.l0 999 vs (vs.length : Int) 0 key vs = some r2 := h3
          rw [h3']
          refine ⟨r2, rfl, fun h => ?_⟩
          obtain ⟨h5, h6⟩ := h4 h
          refine ⟨⟨hrules, fun v hv => ?_, by omega, by omega⟩, by omega, by omega, by omega, h5⟩
          obtain ⟨i, hi, rfl⟩ := List.getElem_of_mem hv
          have := h6 i hi
          unfold rd_T53 at this
          rwa [Int.toNat_natCast, List.getD_eq_getElem?_getD, List.getElem?_eq_getElem hi] at this
    · exact ⟨_, rfl, fun h => by contradiction⟩
end Go.Proofs.Ytpogicakpgpkcaa.RRuleTells
