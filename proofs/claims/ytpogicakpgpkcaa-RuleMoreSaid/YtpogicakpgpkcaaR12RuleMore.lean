/- Plain laws of what expires later. -/
import Derived.Test.YtpogicakpgpkcaaR11RuleMore
namespace Go.Proofs.Ytpogicakpgpkcaa.RRuleMore
open Go.Proofs.Ytpogicakpgpkcaa.PRuleMore

theorem asked_now (k : Nat) (l : List S45) (key : ByteArray) (vs : List S53) (now later : Int) (h0 : 0 ≤ now) (h1 : now ≤ 2097152) (h2 : 0 ≤ later) (h3 : later ≤ 2097152) : rule_asked.f k l key vs now = rule_asked.f k l key vs later := by
  unfold rule_asked.f
  rw [show (decide (now > 2097152)) = false by simp; omega, show (decide (later > 2097152)) = false by simp; omega]
  have e1 : ¬ now < 0 := by omega
  have e2 : ¬ later < 0 := by omega
  simp only [if_neg e1, if_neg e2]
theorem hit_mono {now later v : Int} (h : now ≤ later) (hv : hit now v) : hit later v := ⟨hv.1, Int.le_trans hv.2 h⟩
theorem newest_mono (l : List S45) (key : ByteArray) (vs : List S53) {now later : Int} (h : now ≤ later) (hn : newestF l key vs now = true) : newestF l key vs later = true := by
  rw [newest_iff] at hn ⊢
  exact ⟨hn.1, hit_mono h hn.2⟩
theorem old_mono (l : List S45) (key : ByteArray) (vs : List S53) {now later : Int} (h : now ≤ later) : (oldF l key vs now).Sublist (oldF l key vs later) :=
  (filter_sub _ (fun i _ hp => by rw [old_iff] at hp ⊢; exact ⟨hp.1, hit_mono h hp.2⟩)).map _
theorem next_fold (now : Int) (h0 : 0 ≤ now) : ∀ (l : List Int) (nx : Int), (nx = 0 ∨ now < nx) →
    ((l.foldl (nextS now) nx = 0 ∧ nx = 0 ∧ ∀ v ∈ l, v ≤ now) ∨ (now < l.foldl (nextS now) nx ∧ (l.foldl (nextS now) nx = nx ∨ l.foldl (nextS now) nx ∈ l) ∧ (nx = 0 ∨ l.foldl (nextS now) nx ≤ nx) ∧ ∀ v ∈ l, v ≤ now ∨ l.foldl (nextS now) nx ≤ v))
  | [], nx, h => by
    rcases h with h | h
    · exact .inl ⟨h, h, fun v hv => by cases hv⟩
    · exact .inr ⟨h, .inl rfl, .inr (Int.le_refl _), fun v hv => by cases hv⟩
  | v :: l, nx, h => by
    rw [List.foldl_cons]
    have hs : nextS now nx v = 0 ∨ now < nextS now nx v := by
      unfold nextS
      split
      · exact h
      · split
        · exact .inr (by omega)
        · rw [Int.min_def]; split <;> omega
    rcases next_fold now h0 l (nextS now nx v) hs with ⟨h1, h2, h3⟩ | ⟨h1, h2, h3, h4⟩
    · refine .inl ⟨h1, ?_⟩
      unfold nextS at h2
      split at h2
      · rename_i hv
        exact ⟨h2, fun u hu => by rcases List.mem_cons.1 hu with e | hu; rw [e]; exact hv; exact h3 u hu⟩
      · split at h2
        · omega
        · rw [Int.min_def] at h2; split at h2 <;> omega
    · generalize l.foldl (nextS now) (nextS now nx v) = R at *
      have hcase : (v ≤ now ∧ nextS now nx v = nx) ∨ (now < v ∧ nx = 0 ∧ nextS now nx v = v) ∨ (now < v ∧ nx ≠ 0 ∧ nextS now nx v = min nx v) := by
        unfold nextS
        split
        · exact .inl ⟨by assumption, rfl⟩
        · split
          · exact .inr (.inl ⟨by omega, by assumption, rfl⟩)
          · exact .inr (.inr ⟨by omega, by assumption, rfl⟩)
      refine .inr ⟨h1, ?_, ?_, ?_⟩
      · rcases h2 with h2 | h2
        · rcases hcase with ⟨_, e⟩ | ⟨_, _, e⟩ | ⟨_, _, e⟩
          · exact .inl (h2.trans e)
          · exact .inr (by rw [h2, e]; exact List.mem_cons_self)
          · rw [Int.min_def] at e
            split at e
            · exact .inl (h2.trans e)
            · exact .inr (by rw [h2, e]; exact List.mem_cons_self)
        · exact .inr (List.mem_cons_of_mem _ h2)
      · rcases hcase with ⟨_, e⟩ | ⟨_, h5, e⟩ | ⟨_, _, e⟩
        · rw [e] at h3; exact h3
        · exact .inl h5
        · rw [Int.min_def] at e; split at e <;> omega
      · intro u hu
        rcases List.mem_cons.1 hu with e2 | hu
        · subst e2
          rcases hcase with ⟨h5, _⟩ | ⟨h5, _, e⟩ | ⟨_, h6, e⟩
          · exact .inl h5
          · right; omega
          · right
            rw [Int.min_def] at e
            split at e <;> omega
        · exact h4 u hu
theorem next_is (l : List S45) (key : ByteArray) (vs : List S53) (now : Int) (h0 : 0 ≤ now) :
    (nextF l key vs now = 0 ∧ ∀ v ∈ firstL l key vs, v ≤ now) ∨ (now < nextF l key vs now ∧ nextF l key vs now ∈ firstL l key vs ∧ ∀ v ∈ firstL l key vs, v ≤ now ∨ nextF l key vs now ≤ v) := by
  rcases next_fold now h0 (firstL l key vs) 0 (.inl rfl) with ⟨h1, _, h2⟩ | ⟨h1, h2, _, h4⟩
  · exact .inl ⟨h1, h2⟩
  · refine .inr ⟨h1, ?_, h4⟩
    rcases h2 with h2 | h2
    · have h1' : now < (firstL l key vs).foldl (nextS now) 0 := h1
      omega
    · exact h2
theorem first_mem (l : List S45) (key : ByteArray) (vs : List S53) (i : Nat) (hi : i < vs.length) : (firstL l key vs).getD i 0 ∈ firstL l key vs := by
  rw [List.getD_eq_getElem?_getD, List.getElem?_eq_getElem (by rw [firstL_length]; exact hi)]
  exact List.getElem_mem _
/-- Between now and Next's moment nothing more expires. -/
theorem same_till (l : List S45) (key : ByteArray) (vs : List S53) (now later : Int) (h0 : 0 ≤ now) (h1 : now ≤ later) (hn : nextF l key vs now = 0 ∨ later < nextF l key vs now) :
    newestF l key vs later = newestF l key vs now ∧ oldF l key vs later = oldF l key vs now := by
  have hh : ∀ i, i < vs.length → (hit later ((firstL l key vs).getD i 0) ↔ hit now ((firstL l key vs).getD i 0)) := fun i hi => by
    refine ⟨fun h => ?_, hit_mono h1⟩
    have hm := first_mem l key vs i hi
    rcases next_is l key vs now h0 with ⟨_, h2⟩ | ⟨h2, _, h3⟩
    · exact ⟨h.1, h2 _ hm⟩
    · rcases h3 _ hm with h4 | h4
      · exact ⟨h.1, h4⟩
      · have := h.2; exfalso; omega
  constructor
  · rw [Bool.eq_iff_iff, newest_iff, newest_iff]
    exact ⟨fun ⟨a, b⟩ => ⟨a, (hh 0 a).1 b⟩, fun ⟨a, b⟩ => ⟨a, (hh 0 a).2 b⟩⟩
  · unfold oldF oldN
    congr 1
    refine List.filter_congr (fun i hi => ?_)
    rw [Bool.eq_iff_iff, old_iff, old_iff, hh i (List.mem_range.1 hi)]
theorem filter_lt {α : Type} {p q : α → Bool} (l : List α) (h : ∀ x ∈ l, p x = true → q x = true) (x : α) (hx : x ∈ l) (hq : q x = true) (hp : p x = false) : (l.filter p).length < (l.filter q).length := by
  refine Nat.lt_of_le_of_ne (filter_sub l h).length_le (fun e => ?_)
  have e2 := (filter_sub l h).eq_of_length e
  have h1 : x ∈ l.filter q := List.mem_filter.2 ⟨hx, hq⟩
  rw [← e2] at h1
  have := (List.mem_filter.1 h1).2
  rw [hp] at this; cases this
/-- At Next's moment, and later, something more has expired. -/
theorem grows (l : List S45) (key : ByteArray) (vs : List S53) (now later : Int) (h0 : 0 ≤ now) (h1 : now ≤ later) (hn : nextF l key vs now ≠ 0) (hl : nextF l key vs now ≤ later) :
    newestF l key vs now ≠ newestF l key vs later ∨ (oldF l key vs now).length ≠ (oldF l key vs later).length := by
  rcases next_is l key vs now h0 with ⟨h2, _⟩ | ⟨h2, h3, _⟩
  · exact absurd h2 hn
  · obtain ⟨i, hi, he⟩ := List.getElem_of_mem h3
    have hi2 : i < vs.length := by rw [← firstL_length l key vs]; exact hi
    have hg : (firstL l key vs).getD i 0 = nextF l key vs now := by rw [List.getD_eq_getElem?_getD, List.getElem?_eq_getElem hi, Option.getD_some, he]
    have hno : ¬ hit now ((firstL l key vs).getD i 0) := fun h => by have := h.2; omega
    have hyes : hit later ((firstL l key vs).getD i 0) := ⟨by omega, by omega⟩
    by_cases hi0 : i = 0
    · subst hi0
      left
      intro e
      have h4 : newestF l key vs later = true := (newest_iff _ _ _ _).2 ⟨hi2, hyes⟩
      rw [← e] at h4
      exact hno ((newest_iff _ _ _ _).1 h4).2
    · right
      refine Nat.ne_of_lt ?_
      unfold oldF oldN
      rw [List.length_map, List.length_map]
      refine filter_lt _ (fun j _ hp => by rw [old_iff] at hp ⊢; exact ⟨hp.1, hit_mono h1 hp.2⟩) i (List.mem_range.2 hi2) ((old_iff _ _ _ _ _).2 ⟨by omega, hyes⟩) ?_
      cases e : oldB l key vs now i with
      | false => rfl
      | true => exact absurd ((old_iff _ _ _ _ _).1 e).2 hno
theorem next_ok (l : List S45) (key : ByteArray) (vs : List S53) (now : Int) (h0 : 0 ≤ now) : nextF l key vs now = 0 ∨ now < nextF l key vs now := (next_is l key vs now h0).imp (·.1) (·.1)
end Go.Proofs.Ytpogicakpgpkcaa.RRuleMore
