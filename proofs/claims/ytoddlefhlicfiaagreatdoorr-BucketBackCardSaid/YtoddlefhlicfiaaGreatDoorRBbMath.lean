/- The codec of buckets in plain Lean: numbers, texts, what is read is what was written, and no beginning of it. No program in sight. -/
import Derived.KernelRfl
namespace Go.Proofs.Bb
/-- A reader of bytes: what it reads, and what is left; none: not there. -/
abbrev Rd (α : Type) := List Nat → Option (α × List Nat)
/-- It takes a beginning that it knows by itself: with anything behind it the same is read, and of no shorter beginning. -/
def Safe {α : Type} (P : Rd α) : Prop := ∀ b v rest, P b = some (v, rest) → ∃ c, b = c ++ rest ∧ (∀ t, P (c ++ t) = some (v, t)) ∧ ∀ q, q <+: c → q ≠ c → P q = none
def ret {α : Type} (v : α) : Rd α := fun b => some (v, b)
def bnd {α β : Type} (P : Rd α) (f : α → Rd β) : Rd β := fun b => (P b).bind fun p => f p.1 p.2
def chk {α : Type} (P : Rd α) (ok : α → Bool) : Rd α := fun b => (P b).bind fun p => if ok p.1 = true then some p else none
theorem safe_ret {α : Type} (v : α) : Safe (ret v) := by
  intro b u rest h
  injection h with h
  injection h with h1 h2
  subst h1 h2
  exact ⟨[], rfl, fun t => rfl, fun q hq hn => absurd (List.prefix_nil.1 hq) hn⟩
theorem safe_chk {α : Type} {P : Rd α} (hP : Safe P) (ok : α → Bool) : Safe (chk P ok) := by
  intro b v rest h
  unfold chk at h
  cases hp : P b with
  | none => rw [hp] at h; cases h
  | some p =>
    rw [hp] at h
    simp only [Option.bind_some] at h
    split at h
    · rename_i ho
      injection h with h
      subst h
      obtain ⟨c, h1, h2, h3⟩ := hP b v rest hp
      exact ⟨c, h1, fun t => by unfold chk; rw [h2]; simp only [Option.bind_some]; rw [if_pos ho], fun q hq hn => by unfold chk; rw [h3 q hq hn]; rfl⟩
    · cases h
theorem pre_app {q c d : List Nat} (h : q <+: c ++ d) : q <+: c ∨ ∃ s, q = c ++ s ∧ s <+: d := by
  rcases List.prefix_or_prefix_of_prefix h (List.prefix_append c d) with h1 | h1
  · exact .inl h1
  · obtain ⟨s, rfl⟩ := h1
    exact .inr ⟨s, rfl, (List.prefix_append_right_inj c).1 h⟩
theorem safe_bnd {α β : Type} {P : Rd α} (hP : Safe P) {f : α → Rd β} (hf : ∀ v, Safe (f v)) : Safe (bnd P f) := by
  intro b v rest h
  unfold bnd at h
  cases hp : P b with
  | none => rw [hp] at h; cases h
  | some p =>
    rw [hp] at h
    obtain ⟨u, r⟩ := p
    simp only [Option.bind_some] at h
    obtain ⟨c, h1, h2, h3⟩ := hP b u r hp
    obtain ⟨d, k1, k2, k3⟩ := hf u r v rest h
    refine ⟨c ++ d, by rw [h1, k1, List.append_assoc], fun t => ?_, fun q hq hn => ?_⟩
    · unfold bnd
      rw [List.append_assoc, h2]
      exact k2 t
    · unfold bnd
      rcases pre_app hq with hq1 | ⟨s, rfl, hs⟩
      · by_cases e : q = c
        · subst e
          have h4 := h2 []
          rw [List.append_nil] at h4
          rw [h4]
          exact k3 [] List.nil_prefix (fun e => hn (by rw [← e, List.append_nil]))
        · rw [h3 q hq1 e]; rfl
      · rw [h2]
        exact k3 s hs (fun e => hn (by rw [e]))
/-! numbers -/
def encU (n : Nat) : List Nat := if n < 128 then [n] else (n % 128 + 128) :: encU (n / 128)
  termination_by n
  decreasing_by omega
def decU : Nat → Nat → Rd Nat
  | _, _, [] => none
  | i, n, c :: l => if c < 128 then (if (c = 0 ∧ 0 < i) ∨ n + c * 128 ^ i > 1099511627776 then none else some (n + c * 128 ^ i, l)) else (if i + 1 < 6 then decU (i + 1) (n + (c - 128) * 128 ^ i) l else none)
theorem safe_decU : ∀ (b : List Nat) (i n v : Nat) (rest : List Nat), decU i n b = some (v, rest) → ∃ c, b = c ++ rest ∧ (∀ t, decU i n (c ++ t) = some (v, t)) ∧ ∀ q, q <+: c → q ≠ c → decU i n q = none
  | [], _, _, _, _, h => by rw [decU] at h; cases h
  | c :: l, i, n, v, rest, h => by
    rw [decU] at h
    split at h
    · rename_i hc
      split at h
      · cases h
      · rename_i ho
        injection h with h
        injection h with h1 h2
        subst h1 h2
        refine ⟨[c], rfl, fun t => by rw [List.cons_append, decU, if_pos hc, if_neg ho]; rfl, fun q hq hn => ?_⟩
        cases q with
        | nil => rw [decU]
        | cons d q =>
          obtain ⟨e1, e2⟩ := List.cons_prefix_cons.1 hq
          rw [List.prefix_nil.1 e2, e1] at hn
          exact absurd rfl hn
    · rename_i hc
      split at h
      · rename_i h6
        obtain ⟨d, h1, h2, h3⟩ := safe_decU l (i + 1) _ v rest h
        refine ⟨c :: d, by rw [h1]; rfl, fun t => by rw [List.cons_append, decU, if_neg hc, if_pos h6]; exact h2 t, fun q hq hn => ?_⟩
        cases q with
        | nil => rw [decU]
        | cons d' q =>
          obtain ⟨e1, e2⟩ := List.cons_prefix_cons.1 hq
          subst e1
          rw [decU, if_neg hc, if_pos h6]
          exact h3 q e2 (fun e => hn (by rw [e]))
      · cases h
theorem safe_num : Safe (decU 0 0) := fun b v rest h => safe_decU b 0 0 v rest h
theorem dec_enc : ∀ (k m i n : Nat) (t : List Nat), m < 128 ^ k → i + k ≤ 6 → 0 < k → (m = 0 → i = 0) → n + m * 128 ^ i ≤ 1099511627776 → decU i n (encU m ++ t) = some (n + m * 128 ^ i, t)
  | 0, _, _, _, _, _, _, hk, _, _ => absurd hk (by omega)
  | k + 1, m, i, n, t, hm, hi, _, h0, hb => by
    rw [encU]
    split
    · rename_i h
      rw [List.cons_append, decU, if_pos h, if_neg (by
        rintro (⟨h1, h2⟩ | h1)
        · have := h0 h1; omega
        · omega)]
      rfl
    · rename_i h
      have hk : 0 < k := by
        rcases Nat.eq_zero_or_pos k with e | e
        · subst e; simp at hm; omega
        · exact e
      have e : m * 128 ^ i = (m % 128) * 128 ^ i + (m / 128) * 128 ^ (i + 1) := by
        rw [Nat.pow_succ, ← Nat.mul_assoc, Nat.mul_right_comm, ← Nat.add_mul]
        congr 1
        omega
      rw [List.cons_append, decU, if_neg (by omega), if_pos (by omega), Nat.add_sub_cancel]
      rw [dec_enc k (m / 128) (i + 1) (n + m % 128 * 128 ^ i) t (by rw [Nat.pow_succ] at hm; omega) (by omega) hk (by omega) (by omega), e]
      congr 2
      omega
theorem num_back (n : Nat) (hn : n ≤ 1099511627776) (t : List Nat) : decU 0 0 (encU n ++ t) = some (n, t) := by
  have h := dec_enc 6 n 0 0 t (by omega) (by omega) (by omega) (fun _ => rfl) (by omega)
  simpa using h
/-! texts -/
def takeN (n : Nat) : Rd (List Nat) := fun b => if n ≤ b.length then some (b.take n, b.drop n) else none
theorem safe_take (n : Nat) : Safe (takeN n) := by
  intro b v rest h
  unfold takeN at h
  split at h
  · rename_i hn
    injection h with h
    injection h with h1 h2
    subst h1 h2
    refine ⟨b.take n, (List.take_append_drop n b).symm, fun t => ?_, fun q hq hne => ?_⟩
    · have hl : (b.take n).length = n := by rw [List.length_take]; omega
      unfold takeN
      rw [if_pos (by rw [List.length_append, hl]; omega), List.take_left' hl, List.drop_left' hl]
    · unfold takeN
      rw [if_neg]
      intro hle
      have h1 := hq.length_le
      rw [List.length_take, Nat.min_eq_left hn] at h1
      exact hne (hq.eq_of_length (by rw [List.length_take, Nat.min_eq_left hn]; omega))
  · cases h
def encT (s : List Nat) : List Nat := encU s.length ++ s
def decT : Rd (List Nat) := bnd (chk (decU 0 0) fun n => decide (n ≤ 65536)) takeN
theorem safe_text : Safe decT := safe_bnd (safe_chk safe_num _) safe_take
theorem text_back (s : List Nat) (hs : s.length ≤ 65536) (t : List Nat) : decT (encT s ++ t) = some (s, t) := by
  unfold decT bnd chk encT
  rw [List.append_assoc, num_back _ (by omega)]
  simp only [Option.bind_some, decide_eq_true hs, if_true, takeN]
  rw [if_pos (by rw [List.length_append]; omega), List.take_left' rfl, List.drop_left' rfl]
/-! buckets -/
structure Rul where
  p : List Nat
  d : Nat
  o : Nat
structure Buc where
  name : List Nat
  time : Nat
  state : Nat
  rules : List Rul
def encR (r : Rul) : List Nat := encT r.p ++ (encU r.d ++ encU r.o)
def encRs : List Rul → List Nat
  | [] => []
  | r :: l => encR r ++ encRs l
def encB (x : Buc) : List Nat := encT x.name ++ (encU x.time ++ (encU x.state ++ (encU x.rules.length ++ encRs x.rules)))
def decR : Rd Rul := bnd decT fun p => bnd (decU 0 0) fun d => bnd (decU 0 0) fun o => ret ⟨p, d, o⟩
def decRs : Nat → Rd (List Rul)
  | 0 => ret []
  | n + 1 => bnd decR fun r => bnd (decRs n) fun l => ret (r :: l)
def decB : Rd Buc := bnd decT fun nm => bnd (decU 0 0) fun t => bnd (decU 0 0) fun s => bnd (chk (decU 0 0) fun n => decide (n ≤ 8)) fun n => bnd (decRs n) fun l => ret ⟨nm, t, s, l⟩
theorem safe_rule : Safe decR := safe_bnd safe_text fun _ => safe_bnd safe_num fun _ => safe_bnd safe_num fun _ => safe_ret _
theorem safe_rules : ∀ n, Safe (decRs n)
  | 0 => safe_ret _
  | n + 1 => safe_bnd safe_rule fun _ => safe_bnd (safe_rules n) fun _ => safe_ret _
theorem safe_bucket : Safe decB := safe_bnd safe_text fun _ => safe_bnd safe_num fun _ => safe_bnd safe_num fun _ => safe_bnd (safe_chk safe_num _) fun n => safe_bnd (safe_rules n) fun _ => safe_ret _
/-- what may be written -/
def FitR (r : Rul) : Prop := r.p.length ≤ 65536 ∧ r.d ≤ 1099511627776 ∧ r.o ≤ 1099511627776
def FitB (x : Buc) : Prop := x.name.length ≤ 65536 ∧ x.time ≤ 1099511627776 ∧ x.state ≤ 1099511627776 ∧ x.rules.length ≤ 8 ∧ ∀ r ∈ x.rules, FitR r
theorem rule_back (r : Rul) (h : FitR r) (t : List Nat) : decR (encR r ++ t) = some (r, t) := by
  unfold decR encR
  simp only [bnd, List.append_assoc, text_back _ h.1, num_back _ h.2.1, num_back _ h.2.2, Option.bind_some, ret]
theorem rules_back : ∀ (l : List Rul), (∀ r ∈ l, FitR r) → ∀ t, decRs l.length (encRs l ++ t) = some (l, t)
  | [], _, t => rfl
  | r :: l, h, t => by
    show decRs (l.length + 1) _ = _
    simp only [decRs, encRs, bnd, List.append_assoc, rule_back r (h r List.mem_cons_self), Option.bind_some, rules_back l (fun q hq => h q (List.mem_cons_of_mem _ hq)), ret]
theorem bucket_back (x : Buc) (h : FitB x) (t : List Nat) : decB (encB x ++ t) = some (x, t) := by
  obtain ⟨h1, h2, h3, h4, h5⟩ := h
  have h6 : x.rules.length ≤ 1099511627776 := by omega
  unfold decB encB
  simp only [bnd, chk, List.append_assoc, text_back _ h1, num_back _ h2, num_back _ h3, num_back _ h6, Option.bind_some, decide_eq_true h4, if_true, rules_back _ h5, ret]
/-- what a reader of a whole bucket tells: nothing may be left -/
def readB (ok : Buc → Bool) (b : List Nat) : Option Buc := (decB b).bind fun p => if p.2 = [] ∧ ok p.1 = true then some p.1 else none
theorem read_back (ok : Buc → Bool) (x : Buc) (h : FitB x) (ho : ok x = true) : readB ok (encB x) = some x := by
  have := bucket_back x h []
  rw [List.append_nil] at this
  unfold readB
  rw [this]
  simp [ho]
theorem read_more (ok : Buc → Bool) (x : Buc) (h : FitB x) (z : Nat) (t : List Nat) : readB ok (encB x ++ z :: t) = none := by
  unfold readB
  rw [bucket_back x h]
  simp
theorem read_less (ok : Buc → Bool) (x : Buc) (h : FitB x) (q : List Nat) (hq : q <+: encB x) (hn : q ≠ encB x) : readB ok q = none := by
  have h0 := bucket_back x h []
  rw [List.append_nil] at h0
  obtain ⟨c, h1, _, h3⟩ := safe_bucket _ _ _ h0
  rw [List.append_nil] at h1
  subst h1
  unfold readB
  rw [h3 q hq hn]
  rfl
theorem enc_inj (x y : Buc) (hx : FitB x) (hy : FitB y) (h : encB x = encB y) : x = y := by
  have h1 := bucket_back x hx []
  have h2 := bucket_back y hy []
  rw [h] at h1
  rw [h1] at h2
  injection h2 with h2
  injection h2
end Go.Proofs.Bb
