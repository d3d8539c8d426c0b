/- What the readers of buckets tell, in plain Lean: takes of a text and numbers against the codec. No program in sight. -/
import Derived.Test.YtoddlefhlicfiaaGreatDoorRTakeDev
import Derived.Test.YtoddlefhlicfiaaGreatDoorRRowDev
import Derived.Test.YtoddlefhlicfiaaGreatDoorRBytesDev
set_option linter.unusedSimpArgs false
set_option linter.unusedVariables false
namespace Go.Proofs.YtoddlefhlicfiaaGreatDoorR.RdrDev
open Go Go.RowKit Go.Proofs.Bb
def okRul (x : Rul) : Bool := plainN x.p && (decide (x.p.length ≤ 120) && (decide (x.d ≤ 10000) && (decide (x.o ≤ 10000) && !(decide (x.d = 0) && decide (x.o = 0)))))
def okBuc (x : Buc) : Bool := bucketN x.name && (decide (x.time ≤ 1048576) && (decide (x.state ≤ 2) && (decide (x.rules.length ≤ 8) && x.rules.all okRul)))
theorem ok_rule (p : ByteArray) (d o : Nat) : goodR ⟨p, (d : Int), (o : Int)⟩ = okRul ⟨sn p, d, o⟩ := by
  unfold goodR okRul
  dsimp only
  rw [sn_len, show decide (0 ≤ (d : Int)) = true from decide_eq_true (by omega), show decide (0 ≤ (o : Int)) = true from decide_eq_true (by omega), Bool.true_and, Bool.true_and, show decide ((d : Int) ≤ 10000) = decide (d ≤ 10000) from decide_eq_decide.2 (by omega), show decide ((o : Int) ≤ 10000) = decide (o ≤ 10000) from decide_eq_decide.2 (by omega), show decide ((d : Int) = 0) = decide (d = 0) from decide_eq_decide.2 (by omega), show decide ((o : Int) = 0) = decide (o = 0) from decide_eq_decide.2 (by omega)]
def Pos (r : RL) : Prop := 0 ≤ r.d ∧ 0 ≤ r.o ∧ r.p.size ≤ 65536
theorem ok_rules : ∀ (rs : List RL), (∀ r ∈ rs, Pos r) → (!(rs.any fun r => !goodR r)) = (rs.map ruN).all okRul
  | [], _ => rfl
  | r :: rs, h => by
    have ih := ok_rules rs (fun q hq => h q (List.mem_cons_of_mem _ hq))
    obtain ⟨h1, h2, _⟩ := h r List.mem_cons_self
    obtain ⟨p, d, o⟩ := r
    obtain ⟨dn, rfl⟩ := Int.eq_ofNat_of_zero_le h1
    obtain ⟨on, rfl⟩ := Int.eq_ofNat_of_zero_le h2
    rw [List.any_cons, List.map_cons, List.all_cons, ← ih, ok_rule]
    simp [ruN]
theorem ok_bucket (nm : ByteArray) (t st : Nat) (rs : List RL) (h : ∀ r ∈ rs, Pos r) : goodB nm (t : Int) (st : Int) rs = okBuc (bucN nm t st rs) := by
  unfold goodB okBuc bucN
  dsimp only
  rw [ok_rules rs h, List.length_map, Int.toNat_natCast, Int.toNat_natCast, show decide (0 ≤ (t : Int)) = true from decide_eq_true (by omega), show decide (0 ≤ (st : Int)) = true from decide_eq_true (by omega), Bool.true_and, Bool.true_and, show decide ((t : Int) ≤ 1048576) = decide (t ≤ 1048576) from decide_eq_decide.2 (by omega), show decide ((st : Int) ≤ 2) = decide (st ≤ 2) from decide_eq_decide.2 (by omega)]
theorem take2_some {bs t ns rest : List Nat} (h : takeR 2 bs = some ((t, ns), rest)) : ∃ d o, ns = [d, o] ∧ decR bs = some (⟨t, d, o⟩, rest) := by
  simp only [takeR, numsR, bnd] at h
  simp only [decR, bnd]
  cases h1 : decT bs with
  | none => rw [h1] at h; cases h
  | some p =>
    rw [h1] at h
    simp only [Option.bind_some] at h ⊢
    cases h2 : decU 0 0 p.2 with
    | none => rw [h2] at h; cases h
    | some q =>
      rw [h2] at h
      simp only [Option.bind_some] at h ⊢
      cases h3 : decU 0 0 q.2 with
      | none => rw [h3] at h; cases h
      | some r =>
        rw [h3] at h
        simp only [Option.bind_some, ret, Option.some.injEq, Prod.mk.injEq] at h ⊢
        obtain ⟨⟨rfl, rfl⟩, rfl⟩ := h
        exact ⟨q.1, r.1, rfl, by simp⟩
theorem take2_none {bs : List Nat} (h : takeR 2 bs = none) : decR bs = none := by
  simp only [takeR, numsR, bnd] at h
  simp only [decR, bnd]
  cases h1 : decT bs with
  | none => rfl
  | some p =>
    rw [h1] at h
    simp only [Option.bind_some] at h ⊢
    cases h2 : decU 0 0 p.2 with
    | none => rfl
    | some q =>
      rw [h2] at h
      simp only [Option.bind_some] at h ⊢
      cases h3 : decU 0 0 q.2 with
      | none => rfl
      | some r =>
        rw [h3] at h
        simp only [Option.bind_some, ret] at h
        cases h
theorem take3_some {bs t ns rest : List Nat} (h : takeR 3 bs = some ((t, ns), rest)) : ∃ a b n, ns = [a, b, n] ∧ n ≤ 1099511627776 ∧ decB bs = if n ≤ 8 then (decRs n rest).map (fun p => (⟨t, a, b, p.1⟩, p.2)) else none := by
  simp only [takeR, numsR, bnd] at h
  simp only [decB, bnd, chk]
  cases h1 : decT bs with
  | none => rw [h1] at h; cases h
  | some p =>
    rw [h1] at h
    simp only [Option.bind_some] at h ⊢
    cases h2 : decU 0 0 p.2 with
    | none => rw [h2] at h; cases h
    | some q =>
      rw [h2] at h
      simp only [Option.bind_some] at h ⊢
      cases h3 : decU 0 0 q.2 with
      | none => rw [h3] at h; cases h
      | some r =>
        rw [h3] at h
        simp only [Option.bind_some] at h ⊢
        cases h4 : decU 0 0 r.2 with
        | none => rw [h4] at h; cases h
        | some u =>
          rw [h4] at h
          simp only [Option.bind_some, ret, Option.some.injEq, Prod.mk.injEq] at h ⊢
          obtain ⟨⟨rfl, rfl⟩, rfl⟩ := h
          refine ⟨q.1, r.1, u.1, rfl, decU_max _ _ _ _ _ h4, ?_⟩
          by_cases h8 : u.1 ≤ 8
          · rw [if_pos (by simpa using h8), if_pos h8]
            simp only [Option.bind_some]
            cases decRs u.1 u.2 <;> rfl
          · rw [if_neg (by simpa using h8), if_neg h8]
            rfl
theorem take3_none {bs : List Nat} (h : takeR 3 bs = none) : decB bs = none := by
  simp only [takeR, numsR, bnd] at h
  simp only [decB, bnd, chk]
  cases h1 : decT bs with
  | none => rfl
  | some p =>
    rw [h1] at h
    simp only [Option.bind_some] at h ⊢
    cases h2 : decU 0 0 p.2 with
    | none => rfl
    | some q =>
      rw [h2] at h
      simp only [Option.bind_some] at h ⊢
      cases h3 : decU 0 0 q.2 with
      | none => rfl
      | some r =>
        rw [h3] at h
        simp only [Option.bind_some] at h ⊢
        cases h4 : decU 0 0 r.2 with
        | none => rfl
        | some u =>
          rw [h4] at h
          simp only [Option.bind_some, ret] at h
          cases h
def contR (pre : List Rul) (o : Option (List Rul × List Nat)) : Option (List Rul × List Nat) := o.map fun p => (pre ++ p.1, p.2)
theorem rules_none (m : Nat) (cur : List Nat) (pre : List Rul) (h : decR cur = none) : contR pre (decRs (m + 1) cur) = none := by
  simp [decRs, bnd, h, contR]
theorem rules_some (m : Nat) (cur rest : List Nat) (pre : List Rul) (r : Rul) (h : decR cur = some (r, rest)) : contR pre (decRs (m + 1) cur) = contR (pre ++ [r]) (decRs m rest) := by
  simp only [decRs, bnd, h, Option.bind_some, contR]
  cases decRs m rest <;> simp [ret]
theorem decT_size {bs t rest : List Nat} (h : decT bs = some (t, rest)) : t.length ≤ 65536 := by
  simp only [decT, bnd, chk] at h
  cases h1 : decU 0 0 bs with
  | none => rw [h1] at h; cases h
  | some p =>
    rw [h1] at h
    simp only [Option.bind_some] at h
    split at h
    · rename_i hp
      simp only [Option.bind_some, takeN] at h
      split at h
      · injection h with h
        injection h with h2 h3
        rw [← h2, List.length_take]
        simp only [decide_eq_true_eq] at hp
        omega
      · cases h
    · cases h
theorem take_size {k : Nat} {bs t ns rest : List Nat} (h : takeR k bs = some ((t, ns), rest)) : t.length ≤ 65536 := by
  simp only [takeR, bnd] at h
  cases h1 : decT bs with
  | none => rw [h1] at h; cases h
  | some p =>
    rw [h1] at h
    simp only [Option.bind_some] at h
    cases h2 : numsR k p.2 with
    | none => rw [h2] at h; cases h
    | some q =>
      rw [h2] at h
      simp only [Option.bind_some, ret, Option.some.injEq, Prod.mk.injEq] at h
      rw [← h.1.1]
      exact decT_size (rest := p.2) h1
theorem rb_end {bs b1 cur : List Nat} {nm : List Nat} {a b n0 : Nat} {pre : List Rul} (h1 : decRs n0 b1 = contR pre (decRs 0 cur)) (h2 : decB bs = if n0 ≤ 8 then (decRs n0 b1).map (fun p => (⟨nm, a, b, p.1⟩, p.2)) else none) : decB bs = if n0 ≤ 8 then some (⟨nm, a, b, pre⟩, cur) else none := by
  rw [h2, h1]
  simp [decRs, ret, contR]
theorem nums_safe : ∀ k, Bb.Safe (numsR k)
  | 0 => safe_ret _
  | k + 1 => safe_bnd safe_num fun n => safe_bnd (nums_safe k) fun l => safe_ret _
theorem takeR_short {k : Nat} {bs t ns rest : List Nat} (h : takeR k bs = some ((t, ns), rest)) : rest.length ≤ bs.length := by
  have hs : Bb.Safe (takeR k) := safe_bnd safe_text fun t => safe_bnd (nums_safe k) fun l => safe_ret _
  obtain ⟨c, h1, _⟩ := hs bs _ rest h
  rw [h1, List.length_append]; omega
end Go.Proofs.YtoddlefhlicfiaaGreatDoorR.RdrDev
