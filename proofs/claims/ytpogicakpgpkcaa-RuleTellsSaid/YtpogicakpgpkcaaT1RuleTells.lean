/- What the document answers of rules is what the walks gave: no program in sight. -/
import Derived.Test.YtpogicakpgpkcaaR11RuleTells
namespace Go.Proofs.Ytpogicakpgpkcaa.RRuleTells
open Go.RowKit Go.Proofs.Ytpogicakpgpkcaa.PRuleTells Go.Proofs.YtpogicakpgpkcaaW.PrintWords Go.Proofs.YtpogicakpgpkcaaW.PrintLast Go.Proofs.YtpogicakpgpkcaaW.PrintMore
set_option linter.unusedSimpArgs false
set_option linter.unusedVariables false
theorem from_is (a b c : Int) : stowageref22_from.f a b c = some (decide (a ≥ b) && decide (a ≤ c)) := by
  unfold stowageref22_from.f
  by_cases h : a ≥ b
  · simp [h]
  · simp [h]
theorem may_eq (s : ByteArray) (d o : Int) : ∀ (k : Nat) (j : Int), stowageref22_rule.l0 k j s d o = rule_may.l0 k (s.size : Int) j s d o
  | 0, _ => by rw [stowageref22_rule.l0, rule_may.l0]
  | k + 1, j => by
    rw [stowageref22_rule.l0, rule_may.l0]
    by_cases h1 : j < (s.size : Int)
    · simp only [h1, if_true, may_eq s d o k]
    · simp only [h1, if_false, from_is, Option.bind_some, Bool.and_eq_true, decide_eq_true_eq]
      by_cases a1 : d ≥ 0 <;> by_cases a2 : d ≤ 10000 <;> by_cases a3 : o ≥ 0 <;> by_cases a4 : o ≤ 10000 <;> simp [a1, a2, a3, a4]
theorem check0_eq (l : List S45) : ∀ (k : Nat) (j : Int), stowageref22_Check.l0 k l j = rule_Check.l0 k l (l.length : Int) j
  | 0, _ => by rw [stowageref22_Check.l0, rule_Check.l0]
  | k + 1, j => by
    rw [stowageref22_Check.l0, rule_Check.l0]
    by_cases h1 : j < (l.length : Int)
    · simp only [h1, if_true, check0_eq l k]
      unfold stowageref22_rule.f rule_may.f
      simp only [may_eq]
    · simp only [h1, if_false]
theorem check_eq (l : List S45) (k : Nat) : stowageref22_Check.f k l = rule_Check.f k l := by
  unfold stowageref22_Check.f rule_Check.f
  rw [check0_eq]
theorem may0_eq (key : ByteArray) (vs : List S53) : ∀ (k : Nat) (j : Int), stowageref22_may.l0 k j key vs = rule_asked.l0 k vs (vs.length : Int) j key vs
  | 0, _ => by rw [stowageref22_may.l0, rule_asked.l0]
  | k + 1, j => by
    rw [stowageref22_may.l0, rule_asked.l0]
    by_cases h1 : j < (vs.length : Int)
    · simp only [h1, if_true, may0_eq key vs k, from_is, Option.bind_some, Bool.and_eq_true, decide_eq_true_eq]
      by_cases h0 : 0 ≤ j
      · simp only [h0, if_true]
        by_cases a1 : (rd_T53 vs j).f1 < 0
        · rw [if_neg (by omega), if_pos a1]
        · by_cases a2 : (rd_T53 vs j).f1 > 1048576
          · rw [if_neg (by omega), if_neg a1, if_pos a2]
          · rw [if_pos (by omega), if_neg a1, if_neg a2]
      · simp only [h0, if_false]
    · simp only [h1, if_false]
theorem may_asked (l : List S45) (key : ByteArray) (vs : List S53) (now : Int) (k : Nat) (r : Int) (h : rule_asked.f (k + 1) l key vs now = some r) : stowageref22_may.f (k + 1) l key vs now = some r := by
  unfold stowageref22_may.f
  unfold rule_asked.f at h
  rw [check_eq]
  cases hc : rule_Check.f (k + 1) l with
  | none => rw [hc] at h; cases h
  | some t =>
    rw [hc] at h
    simp only [Option.bind_some] at h ⊢
    by_cases ht : t = 0
    · rw [if_pos ht] at h ⊢
      rw [from_is]
      simp only [Option.bind_some, Bool.and_eq_true, decide_eq_true_eq]
      by_cases h0 : now < 0
      · rw [if_pos h0, rule_asked.j0, if_pos rfl] at h
        rw [if_neg (by omega)]
        exact h
      · rw [if_neg h0, rule_asked.j0] at h
        by_cases h1 : now > 2097152
        · rw [if_pos (by simpa using h1)] at h
          rw [if_neg (by omega)]
          exact h
        · rw [if_neg (by simpa using h1)] at h
          rw [if_pos (by omega), may0_eq]
          exact (rule_asked.mono_l k).2 _ _ _ _ _ _ h
    · rw [if_neg ht] at h ⊢
      exact h
theorem may_ev (l : List S45) (key : ByteArray) (vs : List S53) (now : Int) (r : Int) (h : rule_asked.f 1000 l key vs now = some r) : Ev (fun k => stowageref22_may.f k l key vs now) r :=
  Ev.of (stowageref22_may.mono _ _ _ _) (may_asked l key vs now 999 r h)
theorem reffits_is (r : S45) (key : ByteArray) : stowageref22_Fits.f r.f0 r.f1 r.f2 key = some (fits r key) := by
  unfold stowageref22_Fits.f fits
  by_cases h : (key.size : Int) ≥ (r.f0.size : Int)
  · rw [if_pos h, if_pos h, if_pos (by omega), if_pos (by omega), Int.toNat_natCast]
  · rw [if_neg h, if_neg h]
/-- When a version expires by one rule; -1: never. -/
def cand (key : ByteArray) (vs : List S53) (i : Nat) (r : S45) : Int :=
  if fits r key = true then (if i = 0 then (if (rd_T53 vs 0).f2 = true then -1 else (if 0 < r.f1 then (rd_T53 vs 0).f1 + 24 * r.f1 else -1)) else (if 0 < r.f2 then (rd_T53 vs ((i : Int) - 1)).f1 + 24 * r.f2 else -1)) else -1
def leastS (least c : Int) : Int := if c ≥ 0 then (if least < 0 then c else if c < least then c else least) else least
theorem least_hit (now least c : Int) (h : -1 ≤ least) : (hit now (leastS least c) ↔ hit now least ∨ hit now c) ∧ -1 ≤ leastS least c := by
  unfold leastS hit
  split
  · split
    · omega
    · split <;> omega
  · omega
theorem time_in {vs : List S53} (h : ∀ v ∈ vs, 0 ≤ v.f1 ∧ v.f1 ≤ 1048576) (i : Int) : 0 ≤ (rd_T53 vs i).f1 ∧ (rd_T53 vs i).f1 ≤ 1048576 := by
  unfold rd_T53
  rw [List.getD_eq_getElem?_getD]
  cases e : vs[i.toNat]? with
  | none => decide
  | some v => exact h v (List.mem_of_getElem? e)
theorem rule_in {l : List S45} (h : ∀ r ∈ l, RuleOk r) (j : Nat) (hj : j < l.length) : rd_T45 l (j : Int) ∈ l ∧ RuleOk (rd_T45 l (j : Int)) := by
  have hm : rd_T45 l (j : Int) ∈ l := by
    unfold rd_T45; rw [Int.toNat_natCast, List.getD_eq_getElem?_getD, List.getElem?_eq_getElem hj]; exact List.getElem_mem _
  exact ⟨hm, h _ hm⟩
theorem least_none (least : Int) : leastS least (-1) = least := by unfold leastS; rw [if_neg (by decide)]
theorem wsub (i : Nat) (h0 : i ≠ 0) (h : i < 9223372036854775807) : wrap64 ((i : Int) - 1) = (i : Int) - 1 := IntWalk.wrap64_in _ ⟨by omega, by omega⟩
theorem wday (t d : Int) (h0 : 0 ≤ t) (h1 : t ≤ 1048576) (h2 : 0 ≤ d) (h3 : d ≤ 10000) : wrap64 (t + wrap64 (24 * d)) = t + 24 * d := by
  rw [IntWalk.wrap64_in (24 * d) ⟨by omega, by omega⟩, IntWalk.wrap64_in _ ⟨by omega, by omega⟩]
section
variable {l : List S45} {key : ByteArray} {vs : List S53} {i j : Nat} {least c v : Int}
theorem j3_false (hj : j < 1000) (h : Ev (fun k => stowageref22_At.l0 k l (i : Int) (leastS least c) ((j + 1 : Nat) : Int) key vs) v) :
    Ev (fun k => stowageref22_At.j3 k l (i : Int) least (j : Int) c false key vs) v := by
  refine Ev.step (fun k => by rw [stowageref22_At.j3]) ?_
  rw [wsucc j (by omega)]
  simp only [Bool.false_eq_true, if_false]
  unfold leastS at h
  by_cases h0 : c ≥ 0
  · simp only [h0, if_true] at h ⊢
    by_cases h1 : least < 0
    · simp only [h1, if_true] at h ⊢
      exact h
    · simp only [h1, if_false] at h ⊢
      by_cases h2 : c < least
      · simp only [h2, if_true] at h ⊢
        exact h
      · simp only [h2, if_false] at h ⊢
        exact h
  · simp only [h0, if_false] at h ⊢
    exact h
theorem j2_zero (hj : j < 1000) (h : Ev (fun k => stowageref22_At.l0 k l 0 (leastS least c) ((j + 1 : Nat) : Int) key vs) v) :
    Ev (fun k => stowageref22_At.j2 k l 0 least (j : Int) c key vs) v := by
  refine Ev.step (fun k => by rw [stowageref22_At.j2]) ?_
  simp only [show ¬ ((0 : Int) > 0) by decide, if_false]
  exact j3_false (i := 0) hj h
theorem j2_more (g : Good l vs) (hi : i < vs.length) (h0 : i ≠ 0) (hj : j < l.length)
    (h : Ev (fun k => stowageref22_At.l0 k l (i : Int) (leastS least (if 0 < (rd_T45 l (j : Int)).f2 then (rd_T53 vs ((i : Int) - 1)).f1 + 24 * (rd_T45 l (j : Int)).f2 else -1)) ((j + 1 : Nat) : Int) key vs) v) :
    Ev (fun k => stowageref22_At.j2 k l (i : Int) least (j : Int) (-1) key vs) v := by
  have hm := g.m
  have hn := g.n
  obtain ⟨-, hr1, hr2, hr3, hr4⟩ := rule_in g.ok j hj
  obtain ⟨ht1, ht2⟩ := time_in g.times ((i : Int) - 1)
  refine Ev.step (fun k => by rw [stowageref22_At.j2]) ?_
  simp only [show (i : Int) > 0 by omega, show (0 : Int) ≤ (j : Int) by omega, show (j : Int) < (l.length : Int) by omega, if_true]
  by_cases hf : 0 < (rd_T45 l (j : Int)).f2
  · simp only [hf, if_true] at h
    simp only [gt_iff_lt, hf, decide_true]
    refine Ev.step (fun k => by rw [stowageref22_At.j3]) ?_
    rw [wsucc j (by omega), wsub i h0 (by omega), wday _ _ ht1 ht2 hr3 hr4]
    simp only [if_true, show (0 : Int) ≤ (i : Int) - 1 by omega, show (i : Int) - 1 < (vs.length : Int) by omega, show (0 : Int) ≤ (j : Int) by omega, show (j : Int) < (l.length : Int) by omega]
    generalize (rd_T53 vs ((i : Int) - 1)).f1 + 24 * (rd_T45 l (j : Int)).f2 = c at *
    unfold leastS at h
    by_cases h0 : c ≥ 0
    · simp only [h0, if_true] at h ⊢
      by_cases h1 : least < 0
      · simp only [h1, if_true] at h ⊢
        exact h
      · simp only [h1, if_false] at h ⊢
        by_cases h2 : c < least
        · simp only [h2, if_true] at h ⊢
          exact h
        · simp only [h2, if_false] at h ⊢
          exact h
    · simp only [h0, if_false] at h ⊢
      exact h
  · simp only [hf, if_false] at h
    simp only [gt_iff_lt, hf, decide_false]
    exact j3_false (by omega) h
/-- One round of the loop over the rules. -/
theorem round_ev (g : Good l vs) (hi : i < vs.length) (hj : j < l.length)
    (h : Ev (fun k => stowageref22_At.l0 k l (i : Int) (leastS least (cand key vs i (rd_T45 l (j : Int)))) ((j + 1 : Nat) : Int) key vs) v) :
    Ev (fun k => stowageref22_At.l0 k l (i : Int) least (j : Int) key vs) v := by
  have hm := g.m
  have hn := g.n
  obtain ⟨-, hr1, hr2, hr3, hr4⟩ := rule_in g.ok j hj
  have hw := wsucc j (by omega)
  have hfit := reffits_is (rd_T45 l (j : Int)) key
  have hj' : (j : Int) < (l.length : Int) := by omega
  have hi' : (0 : Int) < (vs.length : Int) := by omega
  have hj0 : (0 : Int) ≤ (j : Int) := by omega
  refine Ev.step (fun k => by rw [stowageref22_At.l0]) ?_
  simp only [hj', hj0, if_true, hfit, Option.bind_some]
  unfold cand at h
  by_cases hf : fits (rd_T45 l (j : Int)) key = true
  · simp only [hf, if_true] at h ⊢
    by_cases h0 : i = 0
    · subst h0
      simp only [Int.natCast_zero, if_true, hi'] at h ⊢
      obtain ⟨ht1, ht2⟩ := time_in g.times 0
      by_cases hk : (rd_T53 vs 0).f2 = true
      · simp only [hk, if_true] at h ⊢
        refine Ev.step (fun k => by rw [stowageref22_At.j1]) ?_
        simp only [Bool.false_eq_true, if_false]
        exact j2_zero (by omega) h
      · rw [if_neg hk] at h
        simp only [hk, Bool.false_eq_true, if_false]
        refine Ev.step (fun k => by rw [stowageref22_At.j1]) ?_
        by_cases hd : 0 < (rd_T45 l (j : Int)).f1
        · simp only [gt_iff_lt, hd, decide_true, if_true, hi', hj0, hj'] at h ⊢
          rw [wday _ _ ht1 ht2 hr1 hr2]
          exact j2_zero (by omega) h
        · simp only [gt_iff_lt, hd, decide_false, Bool.false_eq_true, if_false] at h ⊢
          exact j2_zero (by omega) h
    · simp only [h0, if_false] at h
      simp only [show ¬ (i : Int) = 0 by omega, if_false]
      refine Ev.step (fun k => by rw [stowageref22_At.j1]) ?_
      simp only [Bool.false_eq_true, if_false]
      exact j2_more g hi h0 hj h
  · rw [if_neg hf, least_none] at h
    simp only [hf, Bool.false_eq_true, if_false]
    rw [hw]
    exact h
theorem at_ev (g : Good l vs) (hi : i < vs.length) : ∀ (m j : Nat) (least : Int), j + m = l.length → -1 ≤ least →
    ∃ v, Ev (fun k => stowageref22_At.l0 k l (i : Int) least (j : Int) key vs) v ∧ -1 ≤ v ∧ ∀ now, hit now v ↔ hit now least ∨ ∃ q, j ≤ q ∧ q < l.length ∧ hit now (cand key vs i (rd_T45 l (q : Int)))
  | 0, j, least, hj, hl => by
    refine ⟨least, ?_, hl, fun now => ⟨.inl, ?_⟩⟩
    · refine Ev.step (fun k => by rw [stowageref22_At.l0]) ?_
      simp only [show ¬ (j : Int) < (l.length : Int) by omega, if_false]
      exact Ev.now _
    · rintro (h | ⟨q, h1, h2, _⟩)
      · exact h
      · omega
  | m + 1, j, least, hj, hl => by
    obtain ⟨v, h1, h2, h3⟩ := at_ev g hi m (j + 1) (leastS least (cand key vs i (rd_T45 l (j : Int)))) (by omega) (least_hit 0 least _ hl).2
    refine ⟨v, round_ev g hi (by omega) h1, h2, fun now => ?_⟩
    rw [h3, (least_hit now least _ hl).1]
    constructor
    · rintro ((h | h) | ⟨q, k1, k2, k3⟩)
      · exact .inl h
      · exact .inr ⟨j, Nat.le_refl _, by omega, h⟩
      · exact .inr ⟨q, by omega, k2, k3⟩
    · rintro (h | ⟨q, k1, k2, k3⟩)
      · exact .inl (.inl h)
      · by_cases e : q = j
        · subst e; exact .inl (.inr k3)
        · exact .inr ⟨q, by omega, k2, k3⟩
end
theorem first_mem0 (l : List S45) (key : ByteArray) (vs : List S53) (i : Nat) (hi : i < vs.length) : (firstL l key vs).getD i 0 ∈ firstL l key vs := by
  rw [List.getD_eq_getElem?_getD, List.getElem?_eq_getElem (by rw [firstL_length]; exact hi)]
  exact List.getElem_mem _
theorem first_least (l : List S45) (key : ByteArray) (vs : List S53) (h : ∀ v ∈ vs, 0 ≤ v.f1 ∧ v.f1 ≤ 1048576) (i : Nat) (hi : i < vs.length) : -1 ≤ (firstL l key vs).getD i 0 := by
  have key2 : ∀ (ps : List (Int × Int)) (out : List Int), (∀ p ∈ ps, 0 ≤ p.1) → (∀ x ∈ out, -1 ≤ x) → ∀ x ∈ ps.foldl upd out, -1 ≤ x := by
    intro ps
    induction ps with
    | nil => intro out _ h; exact h
    | cons p ps ih =>
      intro out hp ho
      refine ih _ (fun q hq => hp q (List.mem_cons_of_mem _ hq)) (fun x hx => ?_)
      unfold upd at hx
      split at hx
      · rcases List.mem_or_eq_of_mem_set hx with h | h
        · exact ho x h
        · have := hp p List.mem_cons_self; omega
      · exact ho x hx
  refine key2 _ _ (fun p hp => ?_) (fun x hx => ?_) _ (first_mem0 l key vs i hi)
  · obtain ⟨k, _, h2⟩ := momL_mem h hp
    exact (mom1_mem h h2).1
  · rw [List.eq_of_mem_replicate hx]; decide
theorem mom_in {l : List S45} {key : ByteArray} {vs : List S53} {p : Int × Int} {i n : Nat} (hi : i < n) (h : p ∈ mom1 l key vs i) : p ∈ momL l key vs n := by
  induction n with
  | zero => omega
  | succ n ih =>
    unfold momL
    rw [List.mem_append]
    by_cases e : i = n
    · subst e; exact .inr h
    · exact .inl (ih (by omega))
theorem due_of {l : List S45} {key : ByteArray} {since what : Int} {old : Bool} {r : S45} (hr : r ∈ l) (hf : fits r key = true) (hd : 0 < daysOf old r) : (since + daysOf old r * 24, what) ∈ dueL l key since what old := by
  unfold dueL
  exact List.mem_map.2 ⟨r, List.mem_filter.2 ⟨hr, by simp [dueB, hf, hd]⟩, rfl⟩
theorem mem_rd {l : List S45} {r : S45} (h : r ∈ l) : ∃ q : Nat, q < l.length ∧ rd_T45 l (q : Int) = r := by
  obtain ⟨q, hq, e⟩ := List.getElem_of_mem h
  exact ⟨q, hq, by unfold rd_T45; rw [Int.toNat_natCast, List.getD_eq_getElem?_getD, List.getElem?_eq_getElem hq]; exact e⟩
/-- What the document's loop tells is what the walk's list holds. -/
theorem cand_mom {l : List S45} {key : ByteArray} {vs : List S53} (g : Good l vs) {i : Nat} (hi : i < vs.length) (now : Int) :
    (∃ q, 0 ≤ q ∧ q < l.length ∧ hit now (cand key vs i (rd_T45 l (q : Int)))) ↔ ∃ at_, (at_, (i : Int)) ∈ momL l key vs vs.length ∧ at_ ≤ now := by
  constructor
  · rintro ⟨q, -, hq, h⟩
    obtain ⟨hm, -⟩ := rule_in g.ok q hq
    generalize rd_T45 l (q : Int) = r at *
    unfold cand at h
    split at h
    · rename_i hf
      split at h
      · rename_i h0
        subst h0
        split at h
        · exact absurd h.1 (by decide)
        · rename_i hk
          split at h
          · rename_i hd
            refine ⟨_, mom_in hi ?_, h.2⟩
            unfold mom1
            rw [if_pos rfl, if_neg hk]
            have := due_of (since := (rd_T53 vs 0).f1) (what := 0) (old := false) hm hf hd
            rwa [show (rd_T53 vs 0).f1 + daysOf false r * 24 = (rd_T53 vs 0).f1 + 24 * r.f1 by show _ + r.f1 * 24 = _; omega] at this
          · exact absurd h.1 (by decide)
      · rename_i h0
        split at h
        · rename_i hd
          refine ⟨_, mom_in hi ?_, h.2⟩
          unfold mom1
          rw [if_neg h0]
          have := due_of (since := (rd_T53 vs ((i : Int) - 1)).f1) (what := (i : Int)) (old := true) hm hf hd
          rwa [show (rd_T53 vs ((i : Int) - 1)).f1 + daysOf true r * 24 = (rd_T53 vs ((i : Int) - 1)).f1 + 24 * r.f2 by show _ + r.f2 * 24 = _; omega] at this
        · exact absurd h.1 (by decide)
    · exact absurd h.1 (by decide)
  · rintro ⟨a, ha, hn⟩
    obtain ⟨k, hk, hp⟩ := momL_mem g.times ha
    have h4 := mom1_mem g.times hp
    obtain rfl : k = i := by have := h4.2.1; simp at this; omega
    have h0a : 0 ≤ a := h4.1
    unfold mom1 at hp
    split at hp
    · rename_i h0
      subst h0
      split at hp
      · cases hp
      · rename_i hk2
        obtain ⟨r, hr, hf, hd, e⟩ := dueL_mem hp
        obtain ⟨q, hq, rfl⟩ := mem_rd hr
        refine ⟨q, Nat.zero_le _, hq, ?_⟩
        have e1 : a = (rd_T53 vs 0).f1 + (rd_T45 l (q : Int)).f1 * 24 := congrArg Prod.fst e
        unfold cand
        rw [if_pos hf, if_pos rfl, if_neg hk2, if_pos (show 0 < (rd_T45 l (q : Int)).f1 from hd)]
        exact ⟨by omega, by omega⟩
    · rename_i h0
      obtain ⟨r, hr, hf, hd, e⟩ := dueL_mem hp
      obtain ⟨q, hq, rfl⟩ := mem_rd hr
      refine ⟨q, Nat.zero_le _, hq, ?_⟩
      have e1 : a = (rd_T53 vs ((k : Int) - 1)).f1 + (rd_T45 l (q : Int)).f2 * 24 := congrArg Prod.fst e
      unfold cand
      rw [if_pos hf, if_neg h0, if_pos (show 0 < (rd_T45 l (q : Int)).f2 from hd)]
      exact ⟨by omega, by omega⟩
theorem hit_same {u v : Int} (hu : -1 ≤ u) (hv : -1 ≤ v) (h : ∀ now, hit now u ↔ hit now v) : u = v := by
  unfold hit at h
  have h1 := h u
  have h2 := h v
  omega
theorem at_is {l : List S45} {key : ByteArray} {vs : List S53} (g : Good l vs) {i : Nat} (hi : i < vs.length) : Ev (fun k => stowageref22_At.f k l key vs (i : Int)) ((firstL l key vs).getD i 0) := by
  obtain ⟨v, h1, h2, h3⟩ := at_ev g hi (key := key) l.length 0 (-1) (Nat.zero_add _) (by decide)
  have e : v = (firstL l key vs).getD i 0 := hit_same h2 (first_least l key vs g.times i hi) (fun now => by
    rw [h3, first_hit g.times now i hi, ← cand_mom g hi now]
    exact ⟨fun h => h.resolve_left (fun h => absurd h.1 (by decide)), .inr⟩)
  rw [← e]
  exact h1
theorem due_is {l : List S45} {key : ByteArray} {vs : List S53} (g : Good l vs) {i : Nat} (hi : i < vs.length) (now : Int) : Ev (fun k => stowageref22_due.f k l key vs (i : Int) now) (decide (0 ≤ (firstL l key vs).getD i 0) && decide ((firstL l key vs).getD i 0 ≤ now)) := by
  unfold stowageref22_due.f
  refine Ev.bind (at_is g hi) ?_
  generalize (firstL l key vs).getD i 0 = v
  by_cases h : v ≥ 0
  · simp only [h, if_true, show (0 ≤ v) by omega, decide_true, Bool.true_and]
    exact Ev.now _
  · simp only [h, if_false, show ¬ (0 ≤ v) by omega, decide_false, Bool.false_and]
    exact Ev.now _
theorem newest_is {l : List S45} {key : ByteArray} {vs : List S53} {now r : Int} (h : rule_asked.f 1000 l key vs now = some r) (g : r = 0 → Good l vs) : ∃ k, stowageref22_Newest.f k l key vs now = some (if r = 0 then newestF l key vs now else false, r) := by
  refine Ev.rounds (g := fun k => stowageref22_Newest.f k l key vs now) ?_
  unfold stowageref22_Newest.f
  refine Ev.bind (may_ev l key vs now r h) ?_
  by_cases hr : r = 0
  · subst hr
    simp only [if_true]
    by_cases hv : (vs.length : Int) > 0
    · simp only [hv, if_true]
      refine Ev.bind (due_is (g rfl) (i := 0) (by omega) now) ?_
      have e : newestF l key vs now = (decide (0 ≤ (firstL l key vs).getD 0 0) && decide ((firstL l key vs).getD 0 0 ≤ now)) := by
        unfold newestF
        rw [decide_eq_true (show 0 < vs.length by omega), Bool.true_and]
      rw [e]
      exact Ev.now _
    · simp only [hv, if_false]
      have e : newestF l key vs now = false := by
        unfold newestF
        rw [decide_eq_false (show ¬ 0 < vs.length by omega), Bool.false_and, Bool.false_and]
      rw [e]
      exact Ev.now _
  · simp only [hr, if_false]
    exact Ev.now _
theorem old_ev {l : List S45} {key : ByteArray} {vs : List S53} (g : Good l vs) (now : Int) : ∀ (m j : Nat), 1 ≤ j → j + m = vs.length →
    Ev (fun k => stowageref22_Old.l0 k l now (oldN l key vs now j) (j : Int) key vs) (oldF l key vs now, 0)
  | 0, j, h1, hj => by
    refine Ev.step (fun k => by rw [stowageref22_Old.l0]) ?_
    simp only [show ¬ (j : Int) < (vs.length : Int) by omega, if_false]
    obtain rfl : j = vs.length := by omega
    exact Ev.now _
  | m + 1, j, h1, hj => by
    have ih := old_ev g now m (j + 1) (by omega) (by omega) (key := key)
    have hm := g.m
    refine Ev.step (fun k => by rw [stowageref22_Old.l0]) ?_
    simp only [show (j : Int) < (vs.length : Int) by omega, if_true]
    refine Ev.bind (due_is g (i := j) (by omega) now) ?_
    rw [oldN_step] at ih
    have hlen : (oldN l key vs now j).length < 8796093022208 := by have := oldN_length l key vs now j; omega
    have e : oldB l key vs now j = (decide (0 ≤ (firstL l key vs).getD j 0) && decide ((firstL l key vs).getD j 0 ≤ now)) := by
      unfold oldB
      rw [decide_eq_true (show 0 < j by omega), Bool.true_and]
    rw [← e, wsucc j (by omega)]
    by_cases hb : oldB l key vs now j = true
    · rw [if_pos hb] at ih
      simp only [hb, if_true, show (0 : Int) ≤ (j : Int) by omega, hlen]
      exact ih
    · rw [if_neg hb] at ih
      simp only [hb, if_false, Bool.false_eq_true]
      exact ih
theorem oldN_one (l : List S45) (key : ByteArray) (vs : List S53) (now : Int) : oldN l key vs now 1 = [] := by
  rw [oldN_step]
  have : oldB l key vs now 0 = false := by unfold oldB; simp
  rw [this]
  rfl
theorem old_is {l : List S45} {key : ByteArray} {vs : List S53} {now r : Int} (h : rule_asked.f 1000 l key vs now = some r) (g : r = 0 → Good l vs) : ∃ k, stowageref22_Old.f k l key vs now = some (if r = 0 then oldF l key vs now else [], r) := by
  refine Ev.rounds (g := fun k => stowageref22_Old.f k l key vs now) ?_
  unfold stowageref22_Old.f
  refine Ev.bind (may_ev l key vs now r h) ?_
  by_cases hr : r = 0
  · subst hr
    simp only [if_true]
    by_cases hv : vs.length = 0
    · refine Ev.step (fun k => by rw [stowageref22_Old.l0]) ?_
      simp only [show ¬ (1 : Int) < (vs.length : Int) by omega, if_false]
      have e : oldF l key vs now = [] := by unfold oldF; rw [hv]; rfl
      rw [e]
      exact Ev.now _
    · have := old_ev (g rfl) now (vs.length - 1) 1 (Nat.le_refl _) (by omega) (key := key)
      rw [oldN_one] at this
      exact this
  · simp only [hr, if_false]
    exact Ev.now _
theorem next_ev {l : List S45} {key : ByteArray} {vs : List S53} (g : Good l vs) (now : Int) : ∀ (m j : Nat) (x : Int), j + m = vs.length →
    Ev (fun k => stowageref22_Next.l0 k l now x (j : Int) key vs) (((firstL l key vs).drop j).foldl (nextS now) x, 0)
  | 0, j, x, hj => by
    refine Ev.step (fun k => by rw [stowageref22_Next.l0]) ?_
    simp only [show ¬ (j : Int) < (vs.length : Int) by omega, if_false]
    rw [List.drop_of_length_le (by rw [firstL_length]; omega)]
    exact Ev.now _
  | m + 1, j, x, hj => by
    have hm := g.m
    have hjl : j < (firstL l key vs).length := by rw [firstL_length]; omega
    have ih := next_ev g now m (j + 1) (nextS now x ((firstL l key vs).getD j 0)) (by omega) (key := key)
    refine Ev.step (fun k => by rw [stowageref22_Next.l0]) ?_
    simp only [show (j : Int) < (vs.length : Int) by omega, if_true]
    refine Ev.bind (at_is g (i := j) (by omega)) ?_
    rw [List.drop_eq_getElem_cons hjl, List.foldl_cons]
    rw [List.getD_eq_getElem?_getD, List.getElem?_eq_getElem hjl, Option.getD_some] at ih ⊢
    generalize (firstL l key vs)[j] = a at *
    rw [wsucc j (by omega)]
    unfold nextS at ih ⊢
    by_cases h1 : a ≤ now
    · rw [if_pos h1] at ih ⊢
      simp only [show ¬ a > now by omega, if_false]
      exact ih
    · rw [if_neg h1] at ih ⊢
      simp only [show a > now by omega, if_true]
      by_cases h2 : x = 0
      · rw [if_pos h2] at ih ⊢
        simp only [h2, if_true]
        exact ih
      · rw [if_neg h2] at ih ⊢
        simp only [h2, if_false]
        by_cases h3 : a < x
        · rw [show min x a = a by omega] at ih ⊢
          simp only [h3, if_true]
          exact ih
        · rw [show min x a = x by omega] at ih ⊢
          simp only [h3, if_false]
          exact ih
theorem next_is {l : List S45} {key : ByteArray} {vs : List S53} {now r : Int} (h : rule_asked.f 1000 l key vs now = some r) (g : r = 0 → Good l vs) : ∃ k, stowageref22_Next.f k l key vs now = some (if r = 0 then nextF l key vs now else 0, r) := by
  refine Ev.rounds (g := fun k => stowageref22_Next.f k l key vs now) ?_
  unfold stowageref22_Next.f
  refine Ev.bind (may_ev l key vs now r h) ?_
  by_cases hr : r = 0
  · subst hr
    simp only [if_true]
    exact next_ev (g rfl) now vs.length 0 0 (Nat.zero_add _)
  · simp only [hr, if_false]
    exact Ev.now _
/-- Check is told alike. -/
theorem check_is (l : List S45) (hs : ∀ r ∈ l, r.f0.size ≤ 300) (hl : l.length ≤ 30) : ∃ r, rule_Check.f 1000 l = some r ∧ stowageref22_Check.f 1000 l = some r := by
  refine (fun ⟨r, h⟩ => ⟨r, h, (check_eq l 1000).trans h⟩ : (∃ r, rule_Check.f 1000 l = some r) → _) ?_
  unfold rule_Check.f
  split
  · exact ⟨_, rfl⟩
  · obtain ⟨r, h, _⟩ := check_tot l 301 (by omega) (fun r hr => by have := hs r hr; omega) (by omega) l.length 0 1000 (Nat.zero_add _) (by omega) (fun i h => absurd h (Nat.not_lt_zero _))
    exact ⟨r, h⟩
/-- The same texts are. -/
theorem same_is (l : List ByteArray) (hl : l.length ≤ 100) : stowagekit_SameTexts.f 1000 l l = some true := by
  have key : ∀ (m j k : Nat), j + m = l.length → m < k → stowagekit_SameTexts.l0 k l l (j : Int) = some true := by
    intro m
    induction m with
    | zero =>
      intro j k hj hk
      obtain ⟨k, rfl⟩ : ∃ q, k = q + 1 := ⟨k - 1, by omega⟩
      rw [stowagekit_SameTexts.l0, if_neg (by omega)]
    | succ m ih =>
      intro j k hj hk
      obtain ⟨k, rfl⟩ : ∃ q, k = q + 1 := ⟨k - 1, by omega⟩
      rw [stowagekit_SameTexts.l0, if_pos (by omega)]
      simp only [show (0 : Int) ≤ (j : Int) by omega, show (j : Int) < (l.length : Int) by omega, if_true]
      rw [wsucc j (by omega)]
      simpa using ih (j + 1) k (by omega) (by omega)
  unfold stowagekit_SameTexts.f
  rw [if_pos rfl]
  exact key l.length 0 1000 (Nat.zero_add _) (by omega)
end Go.Proofs.Ytpogicakpgpkcaa.RRuleTells
