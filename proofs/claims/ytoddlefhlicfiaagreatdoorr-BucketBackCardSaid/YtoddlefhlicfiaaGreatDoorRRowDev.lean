/- Rules in rows of our own. No statement of the seat stands here. -/
import Derived.Test.YtoddlefhlicfiaaGreatDoorRChkDev
set_option linter.unusedSimpArgs false
set_option linter.unusedVariables false
namespace Go.Proofs.YtoddlefhlicfiaaGreatDoorR.RdrDev
open Go Go.RowKit
theorem info_rule : (Tryz.prog.info? 44).map (fun i => (i.zero, i.size, i.bytes)) = some (some (.agg #[.string ⟨#[]⟩, .int .i64 0, .int .i64 0]), 3, 32) := by kernel_rfl
def rc (r : RL) : List Value := [.string r.p, .int .i64 r.d, .int .i64 r.o]
def rcs : List RL → List Value
  | [] => []
  | r :: l => rc r ++ rcs l
theorem rcs_app : ∀ (a b : List RL), rcs (a ++ b) = rcs a ++ rcs b
  | [], _ => rfl
  | x :: a, b => by rw [List.cons_append, rcs, rcs, rcs_app a b, List.append_assoc]
theorem rcs_len : ∀ (a : List RL), (rcs a).length = a.length * 3
  | [] => rfl
  | x :: a => by rw [rcs, List.length_append, rcs_len a, List.length_cons]; simp [rc]; omega
theorem rcs_one : ∀ (a : List RL), ∀ u ∈ rcs a, u.oneCell' = true
  | [], u, hu => by cases hu
  | x :: a, u, hu => by
    rw [rcs] at hu
    rcases List.mem_append.1 hu with h | h
    · simp [rc] at h
      rcases h with rfl | rfl | rfl <;> rfl
    · exact rcs_one a u h
theorem rcs_at : ∀ (a : List RL) (j : Nat) (r : RL), a[j]? = some r → ∀ k, k < 3 → (rcs a)[j * 3 + k]? = (rc r)[k]?
  | [], _, _, h, _, _ => by simp at h
  | x :: a, 0, r, h, k, hk => by
    simp at h
    subst h
    rw [rcs, List.getElem?_append_left (by simp [rc]; omega)]
    simp
  | x :: a, j + 1, r, h, k, hk => by
    simp at h
    rw [rcs, List.getElem?_append_right (by simp [rc]; omega)]
    have := rcs_at a j r h k hk
    rw [← this]
    congr 1
    simp [rc]
    omega
/-- a row of rules of our own -/
def OR (W : World) (B : Nat) (v : Value) (rs : List RL) : Prop := W.ownsRow B 44 3 v rs.length (rcs rs)
theorem OR.lt {W : World} {B : Nat} {v : Value} {rs : List RL} (h : OR W B v rs) : ∀ k, v.ownBlock = some k → B ≤ k ∧ k < W.heap.size := World.ownsRow.lt h
theorem OR.nil (W : World) (B : Nat) : OR W B (.slice none 0 0) [] := World.ownsRow_nil _ _ _ _
theorem OR.keep {W W' : World} {B B' : Nat} {v : Value} {rs : List RL} (h : OR W B v rs) (hb : Below B' W W') (hB : ∀ k, v.ownBlock = some k → k < B') : OR W' B v rs := by
  obtain ⟨hl, ho⟩ := h
  refine ⟨hl, ?_⟩
  rcases ho with ⟨rfl, h0⟩ | ⟨g, cap, cur, rfl, hg, hh, hn, hm, hs, ht⟩
  · exact .inl ⟨rfl, h0⟩
  · exact .inr ⟨g, cap, cur, rfl, hg, by rw [hb.block g (hB g rfl)]; exact hh, hn, hm, hs, ht⟩
theorem OR.below {W W' : World} {B : Nat} {v : Value} {rs : List RL} (h : OR W B v rs) (hb : Below W.heap.size W W') : OR W' B v rs := h.keep hb fun k hk => (h.lt k hk).2
theorem OR.alloc {W : World} {B : Nat} {v : Value} {rs : List RL} (h : OR W B v rs) (o : Obj) : OR (W.alloc o) B v rs := h.below ((Below.refl _ _).alloc (Nat.le_refl _) o)
theorem OR.mono {W : World} {B B' : Nat} {v : Value} {rs : List RL} (h : OR W B v rs) (hB : B' ≤ B) : OR W B' v rs := by
  obtain ⟨hl, ho⟩ := h
  refine ⟨hl, ?_⟩
  rcases ho with ⟨rfl, h0⟩ | ⟨g, cap, cur, rfl, hg, hh, hn, hm, hs, ht⟩
  · exact .inl ⟨rfl, h0⟩
  · exact .inr ⟨g, cap, cur, rfl, Nat.le_trans hB hg, hh, hn, hm, hs, ht⟩
theorem OR.set {W : World} {B : Nat} {v : Value} {rs : List RL} (h : OR W B v rs) {a : Addr} (ha : ∀ k, v.ownBlock = some k → a.block ≠ k) (u : Value) : OR (W.setCell a u) B v rs := by
  obtain ⟨hl, ho⟩ := h
  refine ⟨hl, ?_⟩
  rcases ho with ⟨rfl, h0⟩ | ⟨g, cap, cur, rfl, hg, hh, hn, hm, hs, ht⟩
  · exact .inl ⟨rfl, h0⟩
  · exact .inr ⟨g, cap, cur, rfl, hg, by rw [Below.heap_setCell W a u g (Ne.symm (ha g rfl))]; exact hh, hn, hm, hs, ht⟩
theorem OR.rules {W : World} {B : Nat} {v : Value} {rs : List RL} (h : OR W B v rs) : ∃ A c, v = .slice A rs.length c ∧ rs.length ≤ c ∧ (A = none → c = 0) ∧ RulesAt W A rs := by
  obtain ⟨hl, ho⟩ := h
  rcases ho with ⟨rfl, h0⟩ | ⟨g, cap, cur, rfl, hg, hh, hn, hm, hs, ht⟩
  · have : rs = [] := List.length_eq_zero_iff.1 h0
    subst this
    exact ⟨none, 0, rfl, Nat.le_refl _, fun _ => rfl, fun j hj => absurd hj (Nat.not_lt_zero _)⟩
  · refine ⟨some ⟨g, 0, none⟩, cap, rfl, hn, fun e => (by cases e), fun j hj => ?_⟩
    have e2 : rs[j]? = some (rs[j]'hj) := List.getElem?_eq_getElem hj
    have hc : ∀ k, k < 3 → W.cell? ⟨g, j * 3 + k, none⟩ = (rc (rs[j]'hj))[k]? := by
      intro k hk
      simp only [World.cell?, hh]
      have hlt : j * 3 + k < rs.length * 3 := by omega
      rw [← rcs_at rs j _ e2 k hk, ← ht, List.getElem?_take, if_pos hlt]
      simp
    refine ⟨_, rs[j]'hj, rfl, e2, ?_, ?_, ?_⟩
    · rw [add_at]; exact hc 0 (by omega)
    · rw [add_at]; exact hc 1 (by omega)
    · rw [add_at]; exact hc 2 (by omega)
theorem run_appR (W : World) (B ty N : Nat) (v : Value) (rs : List RL) (r : RL) (hO : OR W B v rs) (hN : W.heap[N]? = some (.cells #[.string r.p, .int .i64 r.d, .int .i64 r.o] 44)) (hl : rs.length ≤ 1000000) (hB : B ≤ W.heap.size) :
    ∃ v' w', (Builtin.append_ #[22, 22] ty #[v, .slice (some ⟨N, 0, none⟩) 1 1]).run Tryz.prog W = .ok v' w' ∧ OR w' B v' (rs ++ [r]) ∧ W.grownBy w' v.ownBlock ∧ (v'.ownBlock = v.ownBlock ∨ v'.ownBlock = some W.heap.size) := by
  obtain ⟨i, hi, hz, hs, hb⟩ := info_parts info_rule
  obtain ⟨v', w', hr, ho, hg, _, hat⟩ := run_append_own_at (P := Tryz.prog) W B 22 ty 44 i _ 3 32 Tryz.underlying22 hi hz hs hb rfl (by decide) v rs.length (rcs rs) hO ⟨N, 0, none⟩ 1 1 (rcs [r]) (by rw [rcs_len]; rfl) (fun j u hj => by
      rw [add_at]
      simp only [World.cell?, hN]
      have : rcs [r] = [.string r.p, .int .i64 r.d, .int .i64 r.o] := rfl
      rw [this] at hj
      rw [List.getElem?_toArray]
      exact hj) (rcs_one _) (by simp [maxLen]; omega) (by omega) hB
  exact ⟨v', w', hr, by unfold OR; rw [List.length_append, rcs_app]; exact ho, hg, hat⟩
section
variable {P : Program} {ops : Array Oper} {rest : List Oper} {o : Oper} {a : Act} {w : World} {Q : Exit → Act → World → Prop}
/-- append of one rule, at the operation -/
theorem wp_appR (hgd : o.guard = none) (s x : Operand) (ho : o.op = .call { callee := .builtin .append, args := #[s, x], argTypes := #[22, 22] }) {v : Value} (B N : Nat) (rs : List RL) (r : RL) (hO : OR w B v rs) (hN : w.heap[N]? = some (.cells #[.string r.p, .int .i64 r.d, .int .i64 r.o] 44)) (hs : a.eval s = v) (hx : a.eval x = .slice (some ⟨N, 0, none⟩) 1 1) (hl : rs.length ≤ 1000000) (hB : B ≤ w.heap.size)
    (h : ∀ v' w', OR w' B v' (rs ++ [r]) → w.grownBy w' v.ownBlock → (v'.ownBlock = v.ownBlock ∨ v'.ownBlock = some w.heap.size) → wpList Tryz.prog ops Q rest (a.put o.dst v') w') : wpList Tryz.prog ops Q (o :: rest) a w := by
  refine wpList_plain hgd fun K hK => ?_
  obtain ⟨v', w', hr, h2, h3, h4⟩ := run_appR w B o.type N v rs r hO hN hl hB
  unfold Oper.wp execOp
  simp only [ho, resolve, invoke, builtin, Sem.run_bind, Sem.run_pure, Result.andThen_ok, List.map_toArray, List.map_cons, List.map_nil, hs, hx, hr]
  exact hK _ _ (h v' w' h2 h3 h4)
end
end Go.Proofs.YtoddlefhlicfiaaGreatDoorR.RdrDev
