/- append of a whole row behind a row of one's own, at a step of a region that draws. No statement of the seat stands here. -/
import Derived.Test.YtpogicakpgpkcaaR11RuleTells
import Derived.Maps.AppendAt
namespace Go.Proofs.Ytpogicakpgpkcaa.RRuleTells
open Go.RowKit Go.Shelf Go.Proofs.Ytpogicakpgpkcaa.It Go.Proofs.Ytpogicakpgpkcaa.PRuleTells Go.Proofs.YtpogicakpgpkcaaW.PrintWords Go.Proofs.YtpogicakpgpkcaaW.PrintLast Go.Proofs.YtpogicakpgpkcaaW.PrintMore

section
variable {α : Type} {R : α → List Value → Prop} {size : Nat}
theorem Reps.app {ps qs : List α} {cs ds : List Value} (h : Reps R size ps cs) (k : Reps R size qs ds) : Reps R size (ps ++ qs) (cs ++ ds) := by
  refine ⟨by rw [List.length_append, h.1, k.1, List.length_append, Nat.add_mul], fun j p hj => ?_⟩
  rcases Nat.lt_or_ge j ps.length with hlt | hge
  · rw [List.getElem?_append_left hlt] at hj
    have h1 : j * size + size ≤ cs.length := by rw [h.1, ← Nat.succ_mul]; exact Nat.mul_le_mul_right _ hlt
    rw [List.drop_append_of_le_length (by omega), List.take_append_of_le_length (by rw [List.length_drop]; omega)]
    exact h.2 j p hj
  · rw [List.getElem?_append_right hge] at hj
    have h1 : j * size = cs.length + (j - ps.length) * size := by rw [h.1, ← Nat.add_mul]; congr 1; omega
    rw [h1, List.drop_append, List.drop_of_length_le (by omega), List.nil_append, show cs.length + (j - ps.length) * size - cs.length = (j - ps.length) * size by omega]
    exact k.2 _ p hj
theorem Reps.ones (h1 : ∀ p c, R p c → ∀ u ∈ c, u.oneCell' = true) (hs : 0 < size) {ps : List α} {cs : List Value} (h : Reps R size ps cs) : ∀ u ∈ cs, u.oneCell' = true := by
  intro u hu
  obtain ⟨i, hi, rfl⟩ := List.getElem_of_mem hu
  have hlen := h.1
  have hj : i / size < ps.length := by
    apply Nat.div_lt_of_lt_mul
    rw [Nat.mul_comm]; omega
  have hp := h.2 (i / size) _ (List.getElem?_eq_getElem hj)
  refine h1 _ _ hp _ ?_
  have hm := Nat.mod_lt i hs
  have hd := Nat.div_add_mod i size
  have hc : (i / size) * size = size * (i / size) := Nat.mul_comm _ _
  refine List.mem_of_getElem? (i := i % size) ?_
  rw [List.getElem?_take_of_lt hm, List.getElem?_drop, show i / size * size + i % size = i by omega]
  exact List.getElem?_eq_getElem hi
end

section
variable {P : Program}
/-- The law: a row of one's own, and any row behind it. -/
theorem run_append_rows (w : World) (base : Nat) (t ty e : TypeId) (i : TypeInfo) (z : Value) (size bytes : Nat) (ht : P.underlying t = some (.slice e)) (hi : P.info? e = some i) (hz : i.zero = some z)
    (hsize : i.size = size) (hby : i.bytes = bytes) (hzs : z.cells.size = size) (hsz : 0 < size) {α : Type} (R : α → List Value → Prop) (h1 : ∀ p c, R p c → ∀ u ∈ c, u.oneCell' = true)
    (v : Value) (ps qs : List α) (hown : OwnRow R e size w base v ps) (A : Option Addr) (c : Nat) (hq : ReadsRow R size w A qs.length qs)
    (h63 : ps.length + qs.length ≤ maxLen) (hbytes : (ps.length + qs.length) * bytes ≤ 140737488355328) (hbase : base ≤ w.heap.size) :
    ∃ v1 w1, (Builtin.append_ #[t, t] ty #[v, .slice A qs.length c]).run P w = .ok v1 w1 ∧ OwnRow R e size w1 base v1 (ps ++ qs) ∧ w.grownBy w1 v.ownBlock ∧ (v1.ownBlock = v.ownBlock ∨ v1.ownBlock = some w.heap.size) := by
  obtain ⟨inner, ho, hr⟩ := hown
  cases A with
  | some ad =>
    obtain ⟨news, hrn, hcells⟩ := hq.inner_
    obtain ⟨v1, w1, k1, k2, k3, _, k5⟩ := run_append_own_at (P := P) w base t ty e i z size bytes ht hi hz hsize hby hzs hsz v ps.length inner ho ad qs.length c news hrn.1 hcells (Reps.ones h1 hsz hrn) h63 hbytes hbase
    exact ⟨v1, w1, k1, ⟨inner ++ news, by rw [List.length_append]; exact k2, Reps.app hr hrn⟩, k3, k5⟩
  | none =>
    have h0 : qs = [] := by
      cases qs with
      | nil => rfl
      | cons a l => obtain ⟨ad, e, _⟩ := hq.2.2 (by simp); cases e
    subst h0
    have hu : ∀ w, (underlying t).run P w = .ok (.slice e) w := run_underlying ht
    have hi0 : ∀ w, (typeInfo e).run P w = .ok i w := fun w => by simp [typeInfo, hi]
    have hs0 : ∀ w, (sizeOf e).run P w = .ok size w := fun w => by simp [sizeOf, hi0, hsize]
    have hz0 : ∀ w, (zeroValue e).run P w = .ok z w := fun w => by simp [zeroValue, hi0, hz]
    refine ⟨v, w, ?_, by rw [List.append_nil]; exact ⟨inner, ho, hr⟩, World.grownBy.refl _ _, .inl rfl⟩
    rcases ho.2 with ⟨rfl, hn⟩ | ⟨g, cap, cur, rfl, _, _, hle, _⟩
    · simp [Builtin.append_, hu, hs0, hi0, hz0, Builtin.lenOf, Builtin.firstCells]
    · have hle' : ps.length ≤ cap := hle
      simp [Builtin.append_, hu, hs0, hi0, hz0, Builtin.lenOf, Builtin.firstCells, hle']
      rfl
/-- At a step of a region that draws. -/
theorem step_append_rows {w : World} {ops : Array Oper} {o : Oper} {a : Act} {K : Act → World → Prop} {Q : Exit → Act → World → Prop} {E : Prop} (hgd : o.guard = none) (s x : Operand) (t : TypeId)
    (ho : o.op = .call { callee := .builtin .append, args := #[s, x], argTypes := #[t, t] }) {v u : Value} (hs : a.eval s = v) (hx : a.eval x = u) {G : Value → World → Prop}
    (hr : ∃ v1 w1, (Builtin.append_ #[t, t] o.type #[v, u]).run P w = .ok v1 w1 ∧ G v1 w1) (hK : ∀ v1 w1, G v1 w1 → K (a.put o.dst v1) w1) :
    if Region.wanted o (yielded ops a.tmps) = true then Oper.wp P o a w K Q else E := by
  have hw : Region.wanted o (yielded ops a.tmps) = true := by simp [Region.wanted, hgd]
  rw [if_pos hw]
  obtain ⟨v1, w1, h1, h2⟩ := hr
  unfold Oper.wp execOp
  simp only [ho, resolve, invoke, builtin, Sem.run_bind, Sem.run_pure, Result.andThen_ok, List.map_toArray, List.map_cons, List.map_nil, hs, hx, h1]
  exact hK v1 w1 h2
end
end Go.Proofs.Ytpogicakpgpkcaa.RRuleTells
