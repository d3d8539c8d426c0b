/- Plain laws of what expires, with no program in sight. -/
import Derived.Test.YtpogicakpgpkcaaR7RuleTells
namespace Go.Proofs.Ytpogicakpgpkcaa.RRuleTells
open Go.Proofs.Ytpogicakpgpkcaa.PRuleTells

/-- It expires by now. -/
def hit (now v : Int) : Prop := 0 ≤ v ∧ v ≤ now
theorem upd_hit (now : Int) (out : List Int) (p : Int × Int) (i : Nat) (hi : i < out.length) (h0 : 0 ≤ p.1) (h1 : 0 ≤ p.2) :
    hit now ((upd out p).getD i 0) ↔ hit now (out.getD i 0) ∨ (p.2 = (i : Int) ∧ p.1 ≤ now) := by
  unfold upd hit
  by_cases e : p.2 = (i : Int)
  · have e2 : p.2.toNat = i := by omega
    rw [e2]
    split
    · rw [List.getD_eq_getElem?_getD, List.getElem?_set_self hi]
      simp only [Option.getD_some]
      omega
    · omega
  · have e2 : ¬ p.2.toNat = i := by omega
    split
    · rw [List.getD_eq_getElem?_getD, List.getElem?_set_ne e2, ← List.getD_eq_getElem?_getD]
      omega
    · omega
theorem foldl_hit (now : Int) (i : Nat) : ∀ (l : List (Int × Int)) (out : List Int), i < out.length → (∀ p ∈ l, 0 ≤ p.1 ∧ 0 ≤ p.2) →
    (hit now ((l.foldl upd out).getD i 0) ↔ hit now (out.getD i 0) ∨ ∃ at_, (at_, (i : Int)) ∈ l ∧ at_ ≤ now)
  | [], out, _, _ => by simp
  | p :: l, out, hi, hp => by
    rw [List.foldl_cons, foldl_hit now i l (upd out p) (by rw [upd_length]; exact hi) (fun q hq => hp q (List.mem_cons_of_mem _ hq)), upd_hit now out p i hi (hp p List.mem_cons_self).1 (hp p List.mem_cons_self).2]
    constructor
    · rintro ((h | ⟨h1, h2⟩) | ⟨a, h1, h2⟩)
      · exact .inl h
      · exact .inr ⟨p.1, by rw [← h1]; exact List.mem_cons_self, h2⟩
      · exact .inr ⟨a, List.mem_cons_of_mem _ h1, h2⟩
    · rintro (h | ⟨a, h1, h2⟩)
      · exact .inl (.inl h)
      · rcases List.mem_cons.1 h1 with e | h1
        · rw [← e]; exact .inl (.inr ⟨rfl, h2⟩)
        · exact .inr ⟨a, h1, h2⟩
theorem dueL_append (l r : List S45) (key : ByteArray) (since what : Int) (old : Bool) : dueL (l ++ r) key since what old = dueL l key since what old ++ dueL r key since what old := by
  simp [dueL, List.filter_append]
theorem mom1_append (l r : List S45) (key : ByteArray) (vs : List S53) (i : Nat) (p : Int × Int) : p ∈ mom1 (l ++ r) key vs i ↔ p ∈ mom1 l key vs i ∨ p ∈ mom1 r key vs i := by
  unfold mom1
  split
  · split
    · simp
    · rw [dueL_append, List.mem_append]
  · rw [dueL_append, List.mem_append]
theorem momL_append (l r : List S45) (key : ByteArray) (vs : List S53) (p : Int × Int) : ∀ n, p ∈ momL (l ++ r) key vs n ↔ p ∈ momL l key vs n ∨ p ∈ momL r key vs n
  | 0 => by simp [momL]
  | n + 1 => by
    unfold momL
    rw [List.mem_append, List.mem_append, List.mem_append, momL_append l r key vs p n, mom1_append]
    constructor
    · rintro ((h | h) | (h | h))
      · exact .inl (.inl h)
      · exact .inr (.inl h)
      · exact .inl (.inr h)
      · exact .inr (.inr h)
    · rintro ((h | h) | (h | h))
      · exact .inl (.inl h)
      · exact .inr (.inl h)
      · exact .inl (.inr h)
      · exact .inr (.inr h)
theorem dueL_mem {l : List S45} {key : ByteArray} {since what : Int} {old : Bool} {p : Int × Int} (h : p ∈ dueL l key since what old) : ∃ r ∈ l, fits r key = true ∧ 0 < daysOf old r ∧ p = (since + daysOf old r * 24, what) := by
  unfold dueL at h
  obtain ⟨r, hr, rfl⟩ := List.mem_map.1 h
  obtain ⟨h1, h2⟩ := List.mem_filter.1 hr
  simp only [dueB, Bool.and_eq_true, decide_eq_true_eq] at h2
  exact ⟨r, h1, h2.1, h2.2, rfl⟩
theorem time_ok {vs : List S53} (h : ∀ v ∈ vs, 0 ≤ v.f1 ∧ v.f1 ≤ 1048576) (i : Int) : 0 ≤ (rd_T53 vs i).f1 := by
  unfold rd_T53
  rw [List.getD_eq_getElem?_getD]
  cases e : vs[i.toNat]? with
  | none => exact Int.le_refl _
  | some v => exact (h v (List.mem_of_getElem? e)).1
theorem mom1_mem {l : List S45} {key : ByteArray} {vs : List S53} (h : ∀ v ∈ vs, 0 ≤ v.f1 ∧ v.f1 ≤ 1048576) {i : Nat} {p : Int × Int} (hp : p ∈ mom1 l key vs i) : 0 ≤ p.1 ∧ p.2 = i ∧ (∃ r ∈ l, fits r key = true) ∧ (i = 0 → (rd_T53 vs 0).f2 = false) := by
  unfold mom1 at hp
  split at hp
  · rename_i h0
    subst h0
    split at hp
    · cases hp
    · rename_i hm
      obtain ⟨r, hr, hf, hd, rfl⟩ := dueL_mem hp
      have := time_ok h 0
      exact ⟨by show 0 ≤ _ + _; omega, rfl, ⟨r, hr, hf⟩, fun _ => by simpa using hm⟩
  · rename_i h0
    obtain ⟨r, hr, hf, hd, rfl⟩ := dueL_mem hp
    have := time_ok h ((i : Int) - 1)
    exact ⟨by show 0 ≤ _ + _; omega, rfl, ⟨r, hr, hf⟩, fun e => absurd e h0⟩
theorem momL_mem {l : List S45} {key : ByteArray} {vs : List S53} (h : ∀ v ∈ vs, 0 ≤ v.f1 ∧ v.f1 ≤ 1048576) {p : Int × Int} : ∀ {n : Nat}, p ∈ momL l key vs n → ∃ i, i < n ∧ p ∈ mom1 l key vs i
  | 0, hp => by cases hp
  | n + 1, hp => by
    unfold momL at hp
    rcases List.mem_append.1 hp with hp | hp
    · obtain ⟨i, h1, h2⟩ := momL_mem h hp
      exact ⟨i, by omega, h2⟩
    · exact ⟨n, by omega, hp⟩
theorem first_hit {l : List S45} {key : ByteArray} {vs : List S53} (h : ∀ v ∈ vs, 0 ≤ v.f1 ∧ v.f1 ≤ 1048576) (now : Int) (i : Nat) (hi : i < vs.length) :
    hit now ((firstL l key vs).getD i 0) ↔ ∃ at_, (at_, (i : Int)) ∈ momL l key vs vs.length ∧ at_ ≤ now := by
  unfold firstL
  rw [foldl_hit now i _ _ (by simpa using hi) (fun p hp => by
    obtain ⟨j, _, h2⟩ := momL_mem h hp
    have := mom1_mem h h2
    omega)]
  constructor
  · rintro (h | h)
    · exfalso
      unfold hit at h
      rw [List.getD_eq_getElem?_getD, List.getElem?_replicate, if_pos hi] at h
      simp at h
    · exact h
  · exact .inr
theorem hit_append {l r : List S45} {key : ByteArray} {vs : List S53} (h : ∀ v ∈ vs, 0 ≤ v.f1 ∧ v.f1 ≤ 1048576) (now : Int) (i : Nat) (hi : i < vs.length) :
    hit now ((firstL (l ++ r) key vs).getD i 0) ↔ hit now ((firstL l key vs).getD i 0) ∨ hit now ((firstL r key vs).getD i 0) := by
  rw [first_hit h now i hi, first_hit h now i hi, first_hit h now i hi]
  constructor
  · rintro ⟨a, h1, h2⟩
    rcases (momL_append l r key vs _ _).1 h1 with h1 | h1
    · exact .inl ⟨a, h1, h2⟩
    · exact .inr ⟨a, h1, h2⟩
  · rintro (⟨a, h1, h2⟩ | ⟨a, h1, h2⟩)
    · exact ⟨a, (momL_append l r key vs _ _).2 (.inl h1), h2⟩
    · exact ⟨a, (momL_append l r key vs _ _).2 (.inr h1), h2⟩
theorem newest_iff (l : List S45) (key : ByteArray) (vs : List S53) (now : Int) : newestF l key vs now = true ↔ 0 < vs.length ∧ hit now ((firstL l key vs).getD 0 0) := by
  unfold newestF hit
  simp only [Bool.and_eq_true, decide_eq_true_eq, and_assoc]
theorem newest_append {l r : List S45} {key : ByteArray} {vs : List S53} (h : ∀ v ∈ vs, 0 ≤ v.f1 ∧ v.f1 ≤ 1048576) (now : Int) : newestF (l ++ r) key vs now = (newestF l key vs now || newestF r key vs now) := by
  rw [Bool.eq_iff_iff, Bool.or_eq_true, newest_iff, newest_iff, newest_iff]
  constructor
  · rintro ⟨h0, h1⟩
    exact ((hit_append h now 0 h0).1 h1).imp (fun x => ⟨h0, x⟩) (fun x => ⟨h0, x⟩)
  · rintro (⟨h0, h1⟩ | ⟨h0, h1⟩)
    · exact ⟨h0, (hit_append h now 0 h0).2 (.inl h1)⟩
    · exact ⟨h0, (hit_append h now 0 h0).2 (.inr h1)⟩
theorem newest_mark {l : List S45} {key : ByteArray} {vs : List S53} (h : ∀ v ∈ vs, 0 ≤ v.f1 ∧ v.f1 ≤ 1048576) {now : Int} (hn : newestF l key vs now = true) : 0 < vs.length ∧ (rd_T53 vs 0).f2 = false := by
  obtain ⟨h0, h1⟩ := (newest_iff _ _ _ _).1 hn
  obtain ⟨a, h2, _⟩ := (first_hit h now 0 h0).1 h1
  obtain ⟨i, _, h3⟩ := momL_mem h h2
  have h4 := mom1_mem h h3
  exact ⟨h0, h4.2.2.2 (by have := h4.2.1; simp at this; omega)⟩
theorem old_iff (l : List S45) (key : ByteArray) (vs : List S53) (now : Int) (i : Nat) : oldB l key vs now i = true ↔ 0 < i ∧ hit now ((firstL l key vs).getD i 0) := by
  unfold oldB hit
  simp only [Bool.and_eq_true, decide_eq_true_eq, and_assoc]
theorem old_append {l r : List S45} {key : ByteArray} {vs : List S53} (h : ∀ v ∈ vs, 0 ≤ v.f1 ∧ v.f1 ≤ 1048576) (now : Int) (i : Nat) (hi : i < vs.length) : oldB (l ++ r) key vs now i = (oldB l key vs now i || oldB r key vs now i) := by
  rw [Bool.eq_iff_iff, Bool.or_eq_true, old_iff, old_iff, old_iff, hit_append h now i hi]
  constructor
  · rintro ⟨h0, h1 | h1⟩
    · exact .inl ⟨h0, h1⟩
    · exact .inr ⟨h0, h1⟩
  · rintro (⟨h0, h1⟩ | ⟨h0, h1⟩)
    · exact ⟨h0, .inl h1⟩
    · exact ⟨h0, .inr h1⟩
theorem filter_sub {α : Type} {p q : α → Bool} : ∀ (l : List α), (∀ x ∈ l, p x = true → q x = true) → (l.filter p).Sublist (l.filter q)
  | [], _ => List.Sublist.slnil
  | x :: l, h => by
    have ih := filter_sub l (fun y hy => h y (List.mem_cons_of_mem _ hy))
    rw [List.filter_cons, List.filter_cons]
    by_cases hp : p x = true
    · rw [if_pos hp, if_pos (h x List.mem_cons_self hp)]; exact ih.cons_cons _
    · rw [if_neg hp]
      split
      · exact ih.cons _
      · exact ih
theorem filter_len {α : Type} {p q r : α → Bool} : ∀ (l : List α), (∀ x ∈ l, p x = (q x || r x)) → (l.filter p).length ≤ (l.filter q).length + (l.filter r).length
  | [], _ => by simp
  | x :: l, h => by
    have ih := filter_len l (fun y hy => h y (List.mem_cons_of_mem _ hy))
    have hx := h x List.mem_cons_self
    rw [List.filter_cons, List.filter_cons, List.filter_cons]
    cases hq : q x <;> cases hr : r x <;> rw [hq, hr] at hx <;> simp only [Bool.or_false, Bool.or_true] at hx <;> rw [hx] <;> simp only [if_true, Bool.false_eq_true, if_false, List.length_cons] <;> omega
theorem oldF_left {l r : List S45} {key : ByteArray} {vs : List S53} (h : ∀ v ∈ vs, 0 ≤ v.f1 ∧ v.f1 ≤ 1048576) (now : Int) : (oldF l key vs now).Sublist (oldF (l ++ r) key vs now) :=
  (filter_sub _ (fun i hi hp => by rw [old_append h now i (List.mem_range.1 hi), hp]; rfl)).map _
theorem oldF_right {l r : List S45} {key : ByteArray} {vs : List S53} (h : ∀ v ∈ vs, 0 ≤ v.f1 ∧ v.f1 ≤ 1048576) (now : Int) : (oldF r key vs now).Sublist (oldF (l ++ r) key vs now) :=
  (filter_sub _ (fun i hi hp => by rw [old_append h now i (List.mem_range.1 hi), hp, Bool.or_true])).map _
theorem oldF_len {l r : List S45} {key : ByteArray} {vs : List S53} (h : ∀ v ∈ vs, 0 ≤ v.f1 ∧ v.f1 ≤ 1048576) (now : Int) : (oldF (l ++ r) key vs now).length ≤ (oldF l key vs now).length + (oldF r key vs now).length := by
  unfold oldF oldN
  rw [List.length_map, List.length_map, List.length_map]
  exact filter_len _ (fun i hi => old_append h now i (List.mem_range.1 hi))
theorem unfit_none {r : S45} {key : ByteArray} {vs : List S53} (h : ∀ v ∈ vs, 0 ≤ v.f1 ∧ v.f1 ≤ 1048576) (hf : fits r key = false) (now : Int) (i : Nat) (hi : i < vs.length) : ¬ hit now ((firstL [r] key vs).getD i 0) := by
  rw [first_hit h now i hi]
  rintro ⟨a, h1, _⟩
  obtain ⟨j, _, h3⟩ := momL_mem h h1
  obtain ⟨_, _, ⟨q, hq, hq2⟩, _⟩ := mom1_mem h h3
  rw [List.mem_singleton] at hq
  rw [hq, hf] at hq2
  cases hq2
theorem unfit_newest {r : S45} {key : ByteArray} {vs : List S53} (h : ∀ v ∈ vs, 0 ≤ v.f1 ∧ v.f1 ≤ 1048576) (hf : fits r key = false) (now : Int) : newestF [r] key vs now = false := by
  cases e : newestF [r] key vs now with
  | false => rfl
  | true =>
    obtain ⟨h0, h1⟩ := (newest_iff _ _ _ _).1 e
    exact absurd h1 (unfit_none h hf now 0 h0)
theorem unfit_old {r : S45} {key : ByteArray} {vs : List S53} (h : ∀ v ∈ vs, 0 ≤ v.f1 ∧ v.f1 ≤ 1048576) (hf : fits r key = false) (now : Int) : oldF [r] key vs now = [] := by
  unfold oldF oldN
  rw [List.map_eq_nil_iff, List.filter_eq_nil_iff]
  intro i hi hb
  exact unfit_none h hf now i (List.mem_range.1 hi) ((old_iff _ _ _ _ _).1 hb).2
end Go.Proofs.Ytpogicakpgpkcaa.RRuleTells
