/- The executor, part F: its texts one behind the other (see each head). No statement of the seat stands here. -/
import Derived.Test.YtoddlefhlicfiaaGreatDoorRXD
import Derived.Test.YtoddlefhlicfiaaGreatDoorRXE
import Derived.Below
import Derived.MapKept
import Derived.Sort.KeysCollected
import Derived.Lib.Strings
import Derived.Laws.AppendOwn
set_option linter.unusedVariables false
set_option linter.unusedSimpArgs false
/- Calls that are remembered: a call reckoned from a small memory holds from every memory that holds it, and leaves the rest alone. -/
set_option linter.unusedSimpArgs false
set_option linter.unusedVariables false
namespace Go.Proofs.YtoddlefhlicfiaaGreatDoorR.X
open Go

def kidx : IntKind → Nat
  | .i8 => 0 | .i16 => 1 | .i32 => 2 | .i64 => 3 | .u8 => 4 | .u16 => 5 | .u32 => 6 | .u64 => 7
theorem kidx_eq {k j : IntKind} (h : kidx k = kidx j) : k = j := by cases k <;> cases j <;> first | rfl | (cases h)
/-- the same value, told quickly -/
def sameQ (x y : Value) : Bool := match x with
  | .int k a => match a with
    | .ofNat m => match y with
      | .int j b => match b with
        | .ofNat n => Nat.beq m n && Nat.beq (kidx k) (kidx j)
        | .negSucc _ => false
      | _ => false
    | .negSucc m => sameV 8 (.int k (.negSucc m)) y
  | x => sameV 8 x y
theorem sameQ_eq (x y : Value) (h : sameQ x y = true) : x = y := by
  unfold sameQ at h
  split at h
  · split at h
    · split at h
      · split at h
        · simp only [Bool.and_eq_true] at h
          rw [Nat.eq_of_beq_eq_true h.1, kidx_eq (Nat.eq_of_beq_eq_true h.2)]
        · cases h
      · cases h
    · exact sameV_eq _ _ _ h
  · exact sameV_eq _ _ _ h
def allE : List MapEntry → List MapEntry → Bool
  | [], [] => true
  | a :: l, b :: r => sameV 8 a.key b.key && sameV 8 a.val b.val && Nat.beq a.born b.born && allE l r
  | _, _ => false
/-- the same block, told by its text -/
def eqO : AO → AO → Bool
  | .cells c e g w, .cells c' e' g' w' => allL sameQ c c' && Nat.beq e e' && g == g' && w == w'
  | .map es k, .map es' k' => allE es es' && Nat.beq k k'
  | _, _ => false
/-- a call that is remembered: from these blocks of the memory, with so many numbers given out -/
structure Entry where
  args : List Value
  need : List (Nat × AO)
  nx : Nat
  res : Value
  out : List (Nat × AO)
  nx' : Nat
noncomputable def layAll : List (Nat × AO) → Tr AO → Tr AO
  | [], t => t
  | p :: l, t => match Nat.blt p.1 262144 with
    | true => heapLay (layAll l t) p.1 p.2
    | false => layAll l t
noncomputable def Entry.start (e : Entry) : St := { h := layAll e.need .e, nx := e.nx }
def hasO (s : St) (p : Nat × AO) : Bool := match Tr.get s.h p.1 with
  | some o => eqO o p.2
  | none => false
def needOk (s : St) : List (Nat × AO) → Bool
  | [] => true
  | p :: l => hasO s p && needOk s l
def outOk (s : St) : List (Nat × AO) → Bool
  | [] => true
  | p :: l => (match p.2 with
    | .dead => Nat.blt p.1 s.nx
    | _ => hasO s p) && outOk s l
def keyIn (i : Nat) : List (Nat × AO) → Bool
  | [] => false
  | p :: l => Nat.beq p.1 i || keyIn i l
def keptOk (s : St) (out : List (Nat × AO)) : List (Nat × AO) → Bool
  | [] => true
  | p :: l => (keyIn p.1 out || hasO s p) && keptOk s out l
/-- the call, reckoned -/
noncomputable def chunkK (C : Cx) (n f : Nat) (e : Entry) : Bool := match runK C n f e.args e.start with
  | .ok (v, s) => sameV 8 v e.res && Nat.beq s.nx e.nx' && outOk s e.out && keptOk s e.out e.need
  | .error _ => false
/-- the call, by the executor that runs -/
noncomputable def chunkA (C : Cx) (n f : Nat) (e : Entry) : Bool := match callF C (exec C n) f e.args e.start with
  | .ok (v, s) => sameV 8 v e.res && Nat.beq s.nx e.nx' && outOk s e.out && keptOk s e.out e.need
  | .error _ => false
/-- what is remembered -/
noncomputable def memo : List Entry → List Value → St → M (Value × St)
  | [], _, _ => .error "not remembered"
  | e :: l, args, s => match Nat.beq e.nx s.nx with
    | true => match allL (sameV 8) e.args args && needOk s e.need with
      | true => .ok (e.res, { h := layAll e.out s.h, nx := e.nx' })
      | false => .error "remembered otherwise"
    | false => memo l args s

theorem allE_eq : ∀ {l r : List MapEntry}, allE l r = true → l = r
  | [], [], _ => rfl
  | [], _ :: _, h => by cases h
  | _ :: _, [], h => by cases h
  | ⟨k, v, b⟩ :: l, ⟨k', v', b'⟩ :: r, h => by
    simp only [allE, Bool.and_eq_true] at h
    rw [sameV_eq _ _ _ h.1.1.1, sameV_eq _ _ _ h.1.1.2, Nat.eq_of_beq_eq_true h.1.2, allE_eq h.2]
theorem eqO_eq {o p : AO} (h : eqO o p = true) : o = p := by
  unfold eqO at h
  split at h
  · simp only [Bool.and_eq_true, beq_iff_eq] at h
    rw [allL_eq sameQ_eq h.1.1.1, Nat.eq_of_beq_eq_true h.1.1.2, h.1.2, h.2]
  · simp only [Bool.and_eq_true] at h
    rw [allE_eq h.1, Nat.eq_of_beq_eq_true h.2]
  · cases h
theorem hasO_ok {s : St} {p : Nat × AO} (h : hasO s p = true) : Tr.get s.h p.1 = some p.2 := by
  unfold hasO at h
  split at h
  · rename_i o ho; rw [ho, eqO_eq h]
  · cases h
theorem needOk_ok {s : St} : ∀ {l : List (Nat × AO)}, needOk s l = true → ∀ p ∈ l, Tr.get s.h p.1 = some p.2
  | [], _, p, hp => by cases hp
  | q :: l, h, p, hp => by
    simp only [needOk, Bool.and_eq_true] at h
    rcases List.mem_cons.1 hp with rfl | hp
    · exact hasO_ok h.1
    · exact needOk_ok h.2 p hp
theorem outOk_ok {s : St} : ∀ {l : List (Nat × AO)}, outOk s l = true → ∀ p ∈ l, (p.2.isDead = true ∧ p.1 < s.nx) ∨ Tr.get s.h p.1 = some p.2
  | [], _, p, hp => by cases hp
  | q :: l, h, p, hp => by
    simp only [outOk, Bool.and_eq_true] at h
    rcases List.mem_cons.1 hp with rfl | hp
    · obtain ⟨h1, _⟩ := h
      split at h1
      · rename_i hd; exact .inl ⟨by rw [hd]; rfl, by rw [Nat.blt_eq] at h1; exact h1⟩
      · exact .inr (hasO_ok h1)
    · exact outOk_ok h.2 p hp
theorem keyIn_ok {i : Nat} : ∀ {l : List (Nat × AO)}, keyIn i l = true → ∃ q ∈ l, q.1 = i
  | [], h => by cases h
  | q :: l, h => by
    simp only [keyIn, Bool.or_eq_true] at h
    rcases h with h | h
    · exact ⟨q, List.mem_cons_self, Nat.eq_of_beq_eq_true h⟩
    · obtain ⟨p, h1, h2⟩ := keyIn_ok h; exact ⟨p, List.mem_cons_of_mem _ h1, h2⟩
theorem keptOk_ok {s : St} {out : List (Nat × AO)} : ∀ {l : List (Nat × AO)}, keptOk s out l = true → ∀ p ∈ l, (∃ q ∈ out, q.1 = p.1) ∨ Tr.get s.h p.1 = some p.2
  | [], _, p, hp => by cases hp
  | q :: l, h, p, hp => by
    simp only [keptOk, Bool.and_eq_true, Bool.or_eq_true] at h
    rcases List.mem_cons.1 hp with rfl | hp
    · exact h.1.imp keyIn_ok hasO_ok
    · exact keptOk_ok h.2 p hp
theorem layAll_get : ∀ {l : List (Nat × AO)} {t : Tr AO} {j : Nat} {o : AO}, Tr.get (layAll l t) j = some o → (j, o) ∈ l ∨ (Tr.get t j = some o ∧ ∀ p ∈ l, p.1 ≠ j)
  | [], t, j, o, h => .inr ⟨h, fun p hp => by cases hp⟩
  | p :: l, t, j, o, h => by
    simp only [layAll] at h
    split at h
    · rename_i hb
      rw [Nat.blt_eq] at hb
      rw [heapLay_eq, Tr.lay_get _ _ hb] at h
      by_cases e : j = p.1
      · rw [if_pos e] at h
        injection h with h
        exact .inl (by rw [e, ← h]; exact List.mem_cons_self)
      · rw [if_neg e] at h
        rcases layAll_get h with h1 | ⟨h1, h2⟩
        · exact .inl (List.mem_cons_of_mem _ h1)
        · refine .inr ⟨h1, fun q hq => ?_⟩
          rcases List.mem_cons.1 hq with rfl | hq
          · exact fun e2 => e e2.symm
          · exact h2 q hq
    · rename_i hb
      have hj := Tr.get_some h
      rcases layAll_get h with h1 | ⟨h1, h2⟩
      · exact .inl (List.mem_cons_of_mem _ h1)
      · refine .inr ⟨h1, fun q hq => ?_⟩
        rcases List.mem_cons.1 hq with rfl | hq
        · intro e
          have : Nat.blt q.1 262144 = true := by rw [Nat.blt_eq]; omega
          rw [this] at hb; cases hb
        · exact h2 q hq

/-- What is asked of a remembered call. -/
def EntryOk (C : Cx) (f : Nat) (e : Entry) : Prop := ∃ s1 : St, s1.nx = e.nx' ∧ (∀ p ∈ e.out, (p.2.isDead = true ∧ p.1 < s1.nx) ∨ Tr.get s1.h p.1 = some p.2) ∧
  (∀ p ∈ e.need, (∃ q ∈ e.out, q.1 = p.1) ∨ Tr.get s1.h p.1 = some p.2) ∧ ∀ B, CallOk C B f e.args e.start e.res s1
theorem chunkA_ok {C : Cx} (ok : CxOk C) (hN : NameOk C.P) (hI : IntrOk C) (hM : C.P.follows .mixedOrders = true) {n f : Nat} {e : Entry} (h : chunkA C n f e = true) : EntryOk C f e := by
  unfold chunkA at h
  split at h
  · rename_i v s hs
    simp only [Bool.and_eq_true] at h
    obtain ⟨⟨⟨h1, h2⟩, h3⟩, h4⟩ := h
    refine ⟨s, Nat.eq_of_beq_eq_true h2, outOk_ok h3, keptOk_ok h4, fun B => ?_⟩
    rw [← sameV_eq _ _ _ h1]
    exact call_ok ok hN hI hM n hs
  · cases h
theorem chunkK_ok {C : Cx} (ok : CxOk C) (hN : NameOk C.P) (hI : IntrOk C) (hM : C.P.follows .mixedOrders = true) {n f : Nat} {e : Entry} (h : chunkK C n f e = true) : EntryOk C f e := by
  refine chunkA_ok ok hN hI hM (n := n) ?_
  unfold chunkK at h
  unfold chunkA
  cases hr : runK C n f e.args e.start with
  | error x => rw [hr] at h; cases h
  | ok p =>
    obtain ⟨v, s⟩ := p
    rw [hr] at h
    rw [runK_ok hr]
    exact h

theorem HRel.sub {C : Cx} {B : Nat} {σ : Sg} {s s0 : St} {w : World} (h : HRel C B σ s w) (hs : ∀ i o, Tr.get s0.h i = some o → Tr.get s.h i = some o) (hn : s0.nx = s.nx) : HRel C B σ s0 w where
  big := h.big
  lt i o hi := by rw [hn]; exact h.lt i o (hs i o hi)
  obj i o hi hd := by rw [hn]; exact h.obj i o (hs i o hi) hd
  inj i j hi hj := h.inj i j (let ⟨o, h1, h2⟩ := hi; ⟨o, hs _ _ h1, h2⟩) (let ⟨o, h1, h2⟩ := hj; ⟨o, hs _ _ h1, h2⟩)
  glob g hg := by rw [hn]; exact h.glob g hg
/-- A small memory's change, in the whole one. -/
theorem HRel.over {C : Cx} {B : Nat} {σ σ' : Sg} {s s0 s1 s' : St} {w w' : World} (h : HRel C B σ s w) (hs : ∀ i o, Tr.get s0.h i = some o → Tr.get s.h i = some o) (hn : s0.nx = s.nx) (hn' : s'.nx = s1.nx)
    (hs' : ∀ i o, Tr.get s'.h i = some o → o.isDead = false → Tr.get s1.h i = some o ∨ (Tr.get s.h i = some o ∧ Tr.get s0.h i = none))
    (hlt : ∀ i o, Tr.get s'.h i = some o → i < s'.nx) (h1 : HRel C B σ' s1 w') (e : Ext σ σ' s0 s1 w w') : HRel C B σ' s' w' ∧ Ext σ σ' s s' w w' := by
  have hblk : ∀ i, Live s i → (σ i).blk < w.heap.size := by
    rintro i ⟨x, hx, hxd⟩
    obtain ⟨_, o1, h3, _⟩ := h.obj i x hx hxd
    exact (Array.getElem?_eq_some_iff.1 h3).1
  have hsub : ∀ i, Live s0 i → Live s i := fun i hi => let ⟨o, h1, h2⟩ := hi; ⟨o, hs _ _ h1, h2⟩
  have hsubW : ∀ i, LiveW s0 i → LiveW s i := fun i hi => let ⟨o, h1, h2⟩ := hi; ⟨o, hs _ _ h1, h2⟩
  have two : ∀ i, Live s' i → Live s1 i ∨ (Live s i ∧ Tr.get s0.h i = none ∧ σ' i = σ i) := by
    rintro i ⟨o, hi, hd⟩
    rcases hs' i o hi hd with h2 | ⟨h2, h3⟩
    · exact .inl ⟨o, h2, hd⟩
    · exact .inr ⟨⟨o, h2, hd⟩, h3, e.sg i (by rw [hn]; exact h.lt i o h2)⟩
  have cross : ∀ i j, Live s1 i → Live s j → Tr.get s0.h j = none → σ' j = σ j → (σ' i).blk ≠ (σ' j).blk := by
    intro i j hi hj hj0 hjs he
    rw [hjs] at he
    have no : ∀ k, Live s0 k → (σ k).blk ≠ (σ j).blk := fun k hk he2 => by
      have := h.inj k j (hsub k hk) hj he2
      subst this
      obtain ⟨o, ho, _⟩ := hk
      rw [hj0] at ho; cases ho
    rcases e.fresh i hi with h2 | h2 | ⟨k, hk, h2⟩
    · rw [e.sg i (by obtain ⟨o, ho, _⟩ := h2; rw [hn]; exact h.lt i o (hs i o ho))] at he
      exact no i h2 he
    · have := hblk j hj; omega
    · exact no k hk (h2.symm.trans he)
  refine ⟨⟨h1.big, hlt, ?_, ?_, ?_⟩, ⟨?_, ?_, e.size, ?_, ?_, ?_, e.os, e.tape, e.output⟩⟩
  · intro i o hi hd
    rw [hn']
    rcases hs' i o hi hd with h2 | ⟨h2, h3⟩
    · exact h1.obj i o h2 hd
    · have hi' := h.lt i o h2
      have hsg := e.sg i (by rw [hn]; exact hi')
      obtain ⟨g1, o', g2, g3⟩ := h.obj i o h2 hd
      rw [hsg]
      have hlt' := (Array.getElem?_eq_some_iff.1 g2).1
      refine ⟨g1, o', ?_, g3.mono fun k hk => e.mono k (by rw [hn]; exact hk)⟩
      rw [e.frame _ hlt' fun k hk he => ?_]
      · exact g2
      · have := h.inj k i (hsub k hk.live) ⟨o, h2, hd⟩ he
        subst this
        obtain ⟨o2, ho2, _⟩ := hk
        rw [h3] at ho2; cases ho2
  · intro i j hi hj he
    rcases two i hi with h2 | ⟨h2, h3, h4⟩ <;> rcases two j hj with g2 | ⟨g2, g3, g4⟩
    · exact h1.inj i j h2 g2 he
    · exact absurd he (cross i j h2 g2 g3 g4)
    · exact absurd he.symm (cross j i g2 h2 h3 h4)
    · rw [h4, g4] at he; exact h.inj i j h2 g2 he
  · intro g hg; rw [hn']; exact h1.glob g hg
  · intro i hi; exact e.sg i (by rw [hn]; exact hi)
  · rw [hn', ← hn]; exact e.nx
  · intro k hk hf; exact e.frame k hk fun i hi => hf i (hsubW i hi)
  · intro i hi
    rcases two i hi with h2 | ⟨h2, _⟩
    · rcases e.fresh i h2 with h3 | h3 | ⟨j, hj, h3⟩
      · exact .inl (hsub i h3)
      · exact .inr (.inl h3)
      · exact .inr (.inr ⟨j, hsub j hj, h3⟩)
    · exact .inl h2
  · rintro i ⟨o, hi, hd, hfx⟩
    rcases hs' i o hi hd with h2 | ⟨h2, h3⟩
    · rcases e.freshW i ⟨o, h2, hd, hfx⟩ with h3 | h3 | ⟨j, hj, h3⟩
      · exact .inl (hsubW i h3)
      · exact .inr (.inl h3)
      · exact .inr (.inr ⟨j, hsubW j hj, h3⟩)
    · exact .inl ⟨o, h2, hd, hfx⟩
/-- A remembered call is the call. -/
theorem entry_ok {C : Cx} {B f : Nat} {e : Entry} (he : EntryOk C f e) {s : St} (hn : e.nx = s.nx) (hneed : ∀ p ∈ e.need, Tr.get s.h p.1 = some p.2) :
    CallOk C B f e.args s e.res { h := layAll e.out s.h, nx := e.nx' } := by
  obtain ⟨s1, g1, g2, g3, g4⟩ := he
  intro σ w args' h hargs
  have hs : ∀ i o, Tr.get e.start.h i = some o → Tr.get s.h i = some o := by
    intro i o hi
    rcases layAll_get hi with h2 | ⟨h2, _⟩
    · exact hneed (i, o) h2
    · rw [Tr.get_e] at h2; cases h2
  have hn0 : e.start.nx = s.nx := hn
  have hsub := h.sub hs hn0
  refine (g4 B σ w args' hsub (by rw [hn0]; exact hargs)).mono ?_
  rintro x w' ⟨v', σ', rfl, k1, k2, k3⟩
  have hall : ∀ i o, Tr.get (layAll e.out s.h) i = some o → (i, o) ∈ e.out ∨ Tr.get s1.h i = some o ∨ (Tr.get s.h i = some o ∧ Tr.get e.start.h i = none) := by
    intro i o hi
    rcases layAll_get hi with h2 | ⟨h2, h3⟩
    · exact .inl h2
    · cases h4 : Tr.get e.start.h i with
      | none => exact .inr (.inr ⟨h2, rfl⟩)
      | some o2 =>
        have h5 := hs i o2 h4
        rw [h2] at h5
        injection h5 with h5
        subst h5
        rcases layAll_get h4 with h6 | ⟨h6, _⟩
        · rcases g3 (i, o) h6 with ⟨q, hq, hqe⟩ | h7
          · exact absurd hqe (h3 q hq)
          · exact .inr (.inl h7)
        · rw [Tr.get_e] at h6; cases h6
  have key := h.over (s' := { h := layAll e.out s.h, nx := e.nx' }) hs hn0 g1.symm (fun i o hi hd => by
      rcases hall i o hi with h2 | h2
      · rcases g2 (i, o) h2 with h3 | h3
        · rw [hd] at h3; cases h3.1
        · exact .inl h3
      · exact h2) ?_ k2 k3
  · exact ⟨v', σ', rfl, by rw [← g1]; exact k1, key.1, key.2⟩
  · intro i o hi
    show i < e.nx'
    rw [← g1]
    rcases hall i o hi with h2 | h2 | ⟨h2, _⟩
    · rcases g2 (i, o) h2 with h3 | h3
      · exact h3.2
      · exact k2.lt i o h3
    · exact k2.lt i o h2
    · exact Nat.lt_of_lt_of_le (h.lt i o h2) (hn0 ▸ k3.nx)
theorem memo_ok {C : Cx} {B f : Nat} : ∀ {tbl : List Entry}, (∀ e ∈ tbl, EntryOk C f e) → ∀ {args : List Value} {s s' : St} {v : Value}, memo tbl args s = .ok (v, s') → CallOk C B f args s v s'
  | [], _, args, s, s', v, h => by cases h
  | e :: l, ht, args, s, s', v, h => by
    simp only [memo] at h
    split at h
    · rename_i hb
      split at h
      · rename_i hc
        simp only [Bool.and_eq_true] at hc
        cases h
        rw [← allL_eq (sameV_eq 8) hc.1]
        exact entry_ok (ht e List.mem_cons_self) (Nat.eq_of_beq_eq_true hb) (needOk_ok hc.2)
      · cases h
    · exact memo_ok (fun e he => ht e (List.mem_cons_of_mem _ he)) h
end Go.Proofs.YtoddlefhlicfiaaGreatDoorR.X

/- A context that remembers calls, over a context that holds; and one that is the same program. -/
set_option linter.unusedVariables false
namespace Go.Proofs.YtoddlefhlicfiaaGreatDoorR.X
open Go Go.RowKit

theorem ORel.cx {C C' : Cx} (hP : C.P = C'.P) {σ : Sg} {D : Nat → Prop} {l : Loc} {o : AO} {o' : Obj} (h : ORel C σ D l o o') : ORel C' σ D l o o' := by
  cases o with
  | cells c e g wr => obtain ⟨cc, fz, h1, h2, h3, h4, h5⟩ := h; exact ⟨cc, fz, h1, h2, h3, fun hw => (h4 hw).imp id fun x => ⟨x.1, hP ▸ x.2⟩, h5⟩
  | _ => exact h
theorem HRel.cx {C C' : Cx} (hP : C.P = C'.P) (hG : C.G = C'.G) {B : Nat} {σ : Sg} {s : St} {w : World} (h : HRel C B σ s w) : HRel C' B σ s w where
  big := h.big
  lt := h.lt
  obj i o hi hd := let ⟨h1, o', h2, h3⟩ := h.obj i o hi hd; ⟨h1, o', h2, h3.cx hP⟩
  inj := h.inj
  glob g hg := h.glob g (hG ▸ hg)
theorem CallOk.cx {C C' : Cx} (hP : C.P = C'.P) (hG : C.G = C'.G) {B f : Nat} {args : List Value} {s s' : St} {v : Value} (h : CallOk C B f args s v s') : CallOk C' B f args s v s' := by
  intro σ w args' hr ha
  rw [← hP]
  refine (h σ w args' (hr.cx hP.symm hG.symm) ha).mono ?_
  rintro e w' ⟨v', σ', h1, h2, h3, h4⟩
  exact ⟨v', σ', h1, h2, h3.cx hP hG, h4⟩
theorem EntryOk.cx {C C' : Cx} (hP : C.P = C'.P) (hG : C.G = C'.G) {f : Nat} {e : Entry} (h : EntryOk C f e) : EntryOk C' f e :=
  let ⟨s1, h1, h2, h3, h4⟩ := h
  ⟨s1, h1, h2, h3, fun B => (h4 B).cx hP hG⟩

def lookT : List (Nat × List Entry) → Nat → Option (List Entry)
  | [], _ => none
  | p :: l, g => match Nat.beq p.1 g with
    | true => some p.2
    | false => lookT l g
theorem lookT_mem : ∀ {l : List (Nat × List Entry)} {g : Nat} {es : List Entry}, lookT l g = some es → (g, es) ∈ l
  | [], g, es, h => by cases h
  | p :: l, g, es, h => by
    simp only [lookT] at h
    split at h
    · rename_i hb
      injection h with h
      rw [← Nat.eq_of_beq_eq_true hb, ← h]
      exact List.mem_cons_self
    · exact List.mem_cons_of_mem _ (lookT_mem h)
def hasBody (C : Cx) (g : Nat) : Bool := match Tr.get C.funcs g with
  | some fn => fn.body.isSome
  | none => false
/-- what is remembered, else reckoned -/
noncomputable def memoOr (C : Cx) (n g : Nat) (es : List Entry) (args : List Value) (s : St) : M (Value × St) := match memo es args s with
  | .ok r => .ok r
  | .error _ => runK C n g args s
noncomputable def withMemo (C : Cx) (n : Nat) (tbl : List (Nat × List Entry)) : Cx := { C with intr := fun g => match lookT tbl g with
  | none => C.intr g
  | some es => match hasBody C g with
    | true => some (memoOr C n g es)
    | false => none }
theorem withMemo_P (C : Cx) (n : Nat) (tbl : List (Nat × List Entry)) : (withMemo C n tbl).P = C.P := rfl
theorem withMemo_G (C : Cx) (n : Nat) (tbl : List (Nat × List Entry)) : (withMemo C n tbl).G = C.G := rfl
theorem withMemo_cx {C : Cx} (ok : CxOk C) (n : Nat) (tbl : List (Nat × List Entry)) : CxOk (withMemo C n tbl) where
  types := ok.types
  funcs := ok.funcs
theorem withMemo_ok {C : Cx} (ok : CxOk C) (hN : NameOk C.P) (hI : IntrOk C) (hM : C.P.follows .mixedOrders = true) {n : Nat} {tbl : List (Nat × List Entry)}
    (h : ∀ p ∈ tbl, ∀ e ∈ p.2, EntryOk C p.1 e) : IntrOk (withMemo C n tbl) where
  ext f i hf B args s v s' hi σ w args' hr ha := by
    obtain ⟨v', w', σ', h1, h2, h3, h4⟩ := hI.ext f i hf B args s v s' hi σ w args' (hr.cx (C := withMemo C n tbl) (C' := C) (withMemo_P C n tbl) (withMemo_G C n tbl)) ha
    exact ⟨v', w', σ', h1, h2, h3.cx (C := C) (C' := withMemo C n tbl) (withMemo_P C n tbl).symm (withMemo_G C n tbl).symm, h4⟩
  body f i hf := by
    simp only [withMemo] at hf
    split at hf
    · exact hI.body f i hf
    · split at hf
      · rename_i hb
        unfold hasBody at hb
        split at hb
        · rename_i fn hfn
          exact ⟨fn, ok.funcs _ _ hfn, hb⟩
        · cases hb
      · cases hf
  call f i hf B args s v s' hi := by
    simp only [withMemo] at hf
    split at hf
    · exact (hI.call f i hf B args s v s' hi).cx (C := C) (C' := withMemo C n tbl) (withMemo_P C n tbl).symm (withMemo_G C n tbl).symm
    · rename_i es hes
      split at hf
      · injection hf with hf
        subst hf
        unfold memoOr at hi
        split at hi
        · rename_i r hm
          cases hi
          exact (memo_ok (h _ (lookT_mem hes)) hm).cx (C := C) (C' := withMemo C n tbl) (withMemo_P C n tbl).symm (withMemo_G C n tbl).symm
        · exact (call_ok ok hN hI hM n (runK_ok hi)).cx (C := C) (C' := withMemo C n tbl) (withMemo_P C n tbl).symm (withMemo_G C n tbl).symm
      · cases hf
/-- A link of the chain: a call, reckoned by calls that are remembered. -/
theorem link {C : Cx} (ok : CxOk C) (hN : NameOk C.P) (hI : IntrOk C) (hM : C.P.follows .mixedOrders = true) {n : Nat} {tbl : List (Nat × List Entry)}
    (h : ∀ p ∈ tbl, ∀ e ∈ p.2, EntryOk C p.1 e) {f : Nat} {e : Entry} (hc : chunkK (withMemo C n tbl) n f e = true) : EntryOk C f e :=
  (chunkK_ok (C := withMemo C n tbl) (withMemo_cx ok n tbl) hN (withMemo_ok ok hN hI hM h) hM hc).cx (C := withMemo C n tbl) (C' := C) (withMemo_P C n tbl) (withMemo_G C n tbl)
def EntsOk (C : Cx) (g : Nat) : List Entry → Prop
  | [] => True
  | e :: l => EntryOk C g e ∧ EntsOk C g l
def AllOk (C : Cx) : List (Nat × List Entry) → Prop
  | [] => True
  | p :: l => EntsOk C p.1 p.2 ∧ AllOk C l
theorem EntsOk.get {C : Cx} {g : Nat} : ∀ {l : List Entry}, EntsOk C g l → ∀ e ∈ l, EntryOk C g e
  | [], _, e, h => by cases h
  | a :: l, h, e, he => by
    rcases List.mem_cons.1 he with rfl | he
    · exact h.1
    · exact EntsOk.get h.2 e he
theorem AllOk.get {C : Cx} : ∀ {l : List (Nat × List Entry)}, AllOk C l → ∀ p ∈ l, ∀ e ∈ p.2, EntryOk C p.1 e
  | [], _, p, h => by cases h
  | a :: l, h, p, hp => by
    rcases List.mem_cons.1 hp with rfl | hp
    · exact h.1.get
    · exact AllOk.get h.2 p hp
/-- A link of the chain. -/
theorem chain {C : Cx} (ok : CxOk C) (hN : NameOk C.P) (hI : IntrOk C) (hM : C.P.follows .mixedOrders = true) {n : Nat} {tbl : List (Nat × List Entry)} (h : AllOk C tbl) {f : Nat} {e : Entry}
    (hc : chunkK (withMemo C n tbl) n f e = true) : EntryOk C f e := link ok hN hI hM h.get hc
theorem intr_none (P : Program) (G : Nat) : IntrOk (mkCx P G (fun _ => none) (fun _ => none)) where
  ext f i h := by cases h
  body f i h := by cases h
  call f i h := by cases h
/-- no function of that name -/
def nameOk (P : Program) : Bool := P.funcs.toList.all fun f => !(f.name == "runtime.NumGoroutine")
theorem nameOk_ok {P : Program} (h : nameOk P = true) : NameOk P := by
  intro f fn hf e
  have hm : fn ∈ P.funcs.toList := by
    rw [← Array.getElem?_toList] at hf
    exact List.mem_of_getElem? hf
  have := List.all_eq_true.1 h fn hm
  rw [e] at this
  simp at this
/-- The chain's last: a call without arguments, from no memory of ours. -/
theorem chain_top {C : Cx} (hG : C.G = 0) {f nx : Nat} {v : Value} (he : EntryOk C f { args := [], need := [], nx := 0, res := v, out := [], nx' := nx }) (hv : flat v = true) (w : World) :
    Calls C.P f #[] w fun e w' => e = .returned v ∧ Below w.heap.size w w' := by
  obtain ⟨s1, _, _, _, h⟩ := he
  refine (h 0 (fun _ => ⟨0, 0⟩) w [] (empty_rel hG w) trivial).mono ?_
  rintro e w' ⟨v', σ', rfl, h1, h2, h3⟩
  rw [h1.of_flat hv]
  exact ⟨rfl, ⟨h3.os, h3.tape, h3.output, h3.size, fun k hk => h3.frame k hk (fun i hi => absurd hi (empty_fixed i))⟩⟩
end Go.Proofs.YtoddlefhlicfiaaGreatDoorR.X

/- The answers for the drive's ranges over maps: what they are to be, from what the walks give. -/
set_option linter.unusedSimpArgs false
set_option linter.unusedVariables false
namespace Go.Proofs.YtoddlefhlicfiaaGreatDoorR.X
open Go Go.RowKit

/-- stamps that rise, all below the clock -/
def risesB : List MapEntry → Nat → Nat → Bool
  | [], _, _ => true
  | e :: l, lo, hi => Nat.ble lo e.born && Nat.blt e.born hi && risesB l (Nat.succ e.born) hi
theorem rises_ok : ∀ {l : List MapEntry} {lo hi : Nat}, risesB l lo hi = true → (∀ x ∈ l, lo ≤ x.born ∧ x.born < hi) ∧ (l.map (·.born)).Nodup
  | [], _, _, _ => ⟨(fun x hx => by cases hx), List.nodup_nil⟩
  | e :: l, lo, hi, h => by
    simp only [risesB, Bool.and_eq_true] at h
    have h1 := Nat.le_of_ble_eq_true h.1.1
    have h2 := Nat.le_of_ble_eq_true h.1.2
    obtain ⟨h3, h4⟩ := rises_ok h.2
    refine ⟨fun x hx => ?_, ?_⟩
    · rcases List.mem_cons.1 hx with rfl | hx
      · exact ⟨h1, h2⟩
      · have := h3 x hx; omega
    · refine List.nodup_cons.2 ⟨fun hm => ?_, h4⟩
      obtain ⟨x, hx, he⟩ := List.mem_map.1 hm
      have := (h3 x hx).1
      simp only at he
      omega
/-- a file: bytes, and whether they are safe -/
def fileA (v : Value) : M (Nat × Bool) := match v with
  | .agg cs => match cs.toList with
    | [x, y] => match x with
      | .slice _ n _ => match y with
        | .bool b => .ok (n, b)
        | _ => .error "file"
      | _ => .error "file"
    | _ => .error "file"
  | _ => .error "file"
def lensA : List MapEntry → M Nat
  | [] => .ok 0
  | e :: l => M.bnd (fileA e.val) fun p => M.bnd (lensA l) fun n => .ok (Nat.add p.1 n)
def filesA (s : St) (a : Addr) : M (List MapEntry) := M.bnd (rd s a.block) fun b => M.bnd (some! "files" (getL b.c (Nat.add a.off 1))) fun v => match v with
  | .map r => match r with
    | some r => M.bnd (rdMap s r) fun p => match risesB p.1 0 p.2 with
      | true => .ok p.1
      | false => .error "stamps"
    | none => .error "files"
  | _ => .error "files"
/-- Used -/
def usedA (args : List Value) (s : St) : M (Value × St) := match args with
  | [x] => match x with
    | .pointer p => match p with
      | some a => M.bnd (filesA s a) fun es => M.bnd (lensA es) fun n => match Nat.blt n 9223372036854775808 with
        | true => .ok (.int .i64 (.ofNat n), s)
        | false => .error "used"
      | none => .error "used"
    | _ => .error "used"
  | _ => .error "used"
/-- the bytes of a file -/
def lenV : Value → Int
  | .agg a => match a[0]? with
    | some v => match v with
      | .slice _ n _ => (n : Int)
      | _ => 0
    | none => 0
  | _ => 0
/-- What Used's walk gives. -/
def UsedSpec (P : Program) (f : Nat) : Prop := ∀ (b o bm : Nat) (es : Array MapEntry) (clock : Nat) (w : World), w.cell? ⟨b, o + 1, none⟩ = some (.map (some bm)) → w.heap[bm]? = some (.map es clock) → (∀ x ∈ es.toList, x.born < clock) →
  (es.toList.map (·.born)).Nodup → (∀ x ∈ es.toList, ∃ a l c d, x.val = .agg #[.slice a l c, .bool d]) →
  Calls P f #[.pointer (some ⟨b, o, none⟩)] w fun e w' => e = .returned (.int .i64 (wrap64 ((es.toList.map fun e => lenV e.val).sum))) ∧ Below w.heap.size w w'

theorem HRel.below {C : Cx} {B : Nat} {σ : Sg} {s : St} {w w' : World} (h : HRel C B σ s w) (hb : Below w.heap.size w w') : HRel C B σ s w' ∧ Ext σ σ s s w w' :=
  ⟨⟨Nat.le_trans h.big hb.size, h.lt, fun i o hi hd => by
      obtain ⟨h1, o', h2, h3⟩ := h.obj i o hi hd
      exact ⟨h1, o', by rw [hb.block _ (Array.getElem?_eq_some_iff.1 h2).1]; exact h2, h3⟩, h.inj, h.glob⟩,
    ⟨fun _ _ => rfl, Nat.le_refl _, hb.size, fun k hk _ => hb.block k hk, fun _ hi => .inl hi, fun _ hi => .inl hi, hb.os, hb.tape, hb.output⟩⟩
theorem MRel.mem {σ : Sg} {D : Nat → Prop} : ∀ {l r : List MapEntry}, MRel σ D l r → ∀ x' ∈ r, ∃ x ∈ l, VRel σ D x.key x'.key ∧ VRel σ D x.val x'.val ∧ x.born = x'.born
  | [], [], _, x', hx => by cases hx
  | e :: l, e' :: r, h, x', hx => by
    rcases List.mem_cons.1 hx with rfl | hx
    · exact ⟨e, List.mem_cons_self, h.1⟩
    · obtain ⟨x, h1, h2⟩ := MRel.mem h.2 x' hx
      exact ⟨x, List.mem_cons_of_mem _ h1, h2⟩
theorem MRel.borns {σ : Sg} {D : Nat → Prop} : ∀ {l r : List MapEntry}, MRel σ D l r → l.map (·.born) = r.map (·.born)
  | [], [], _ => rfl
  | e :: l, e' :: r, h => by simp only [List.map_cons, h.1.2.2, MRel.borns h.2]
theorem fileA_ok {v : Value} {n : Nat} {b : Bool} (h : fileA v = .ok (n, b)) : ∃ a c, v = .agg #[.slice a n c, .bool b] := by
  unfold fileA at h
  split at h
  · rename_i cs
    split at h
    · rename_i x y hxy
      split at h
      · split at h
        · cases h
          exact ⟨_, _, congrArg Value.agg (Array.ext' (ys := #[_, _]) hxy)⟩
        · cases h
      · cases h
    · cases h
  · cases h
theorem file_rel {σ : Sg} {D : Nat → Prop} {a : Option Addr} {n c : Nat} {b : Bool} {v' : Value} (h : VRel σ D (.agg #[.slice a n c, .bool b]) v') : ∃ a' c', v' = .agg #[.slice a' n c', .bool b] := by
  obtain ⟨cs, rfl, hl⟩ := h.agg_inv
  obtain ⟨x', y', hcs, hx, hy⟩ := LRel.flatten2 hl
  have hy := hy.bool
  subst hy
  have key : ∃ a' c', x' = .slice a' n c' := by
    cases a with
    | none => exact ⟨none, c, hx.of_flat rfl⟩
    | some a =>
      obtain ⟨_, _, h1 | ⟨_, _, c', _, _, h1⟩ | ⟨_, hn, o', h1⟩⟩ := hx.slice_inv
      · exact ⟨_, _, h1.2⟩
      · exact ⟨_, _, h1⟩
      · subst hn; exact ⟨_, _, h1⟩
  obtain ⟨a', c', rfl⟩ := key
  refine ⟨a', c', ?_⟩
  congr 1
  exact Array.ext' hcs
theorem lens_rel {σ : Sg} {D : Nat → Prop} : ∀ {l r : List MapEntry} {n : Nat}, MRel σ D l r → lensA l = .ok n → (r.map fun e => lenV e.val).sum = (n : Int) ∧ ∀ x ∈ r, ∃ a l c d, x.val = .agg #[.slice a l c, .bool d]
  | [], [], n, _, h => by cases h; exact ⟨rfl, fun x hx => by cases hx⟩
  | e :: l, e' :: r, n, hm, h => by
    obtain ⟨⟨k, b⟩, h1, h⟩ := bnd_ok.1 h
    obtain ⟨m, h2, h⟩ := bnd_ok.1 h
    cases h
    obtain ⟨a, c, hv⟩ := fileA_ok h1
    have hr := hm.1.2.1
    rw [hv] at hr
    obtain ⟨a', c', hv'⟩ := file_rel hr
    obtain ⟨g1, g2⟩ := lens_rel hm.2 h2
    refine ⟨?_, fun x hx => ?_⟩
    · simp only [List.map_cons, List.sum_cons, g1, hv']
      show (k : Int) + (m : Int) = ((k + m : Nat) : Int)
      omega
    · rcases List.mem_cons.1 hx with rfl | hx
      · exact ⟨_, _, _, _, hv'⟩
      · exact g2 x hx
/-- what the drive's files are, in the model's memory -/
theorem filesA_ok {C : Cx} {B : Nat} {σ : Sg} {s : St} {w : World} (h : HRel C B σ s w) {a : Addr} (ha : a.spot = none) {es : List MapEntry} (hf : filesA s a = .ok es) :
    ∃ bm clock es', w.cell? ⟨(σ a.block).blk, a.off + 1, none⟩ = some (.map (some bm)) ∧ w.heap[bm]? = some (.map es' clock) ∧ MRel σ (· < s.nx) es es'.toList ∧ (∀ x ∈ es'.toList, x.born < clock) ∧ (es'.toList.map (·.born)).Nodup := by
  unfold filesA at hf
  obtain ⟨b, hb, hf⟩ := bnd_ok.1 hf
  obtain ⟨v, hv, hf⟩ := bnd_ok.1 hf
  have hv := some_ok.1 hv
  split at hf
  · split at hf
    · rename_i r _
      obtain ⟨⟨es0, clk⟩, hm, hf⟩ := bnd_ok.1 hf
      simp only at hf
      split at hf
      · rename_i hst
        cases hf
        obtain ⟨_, _, _, es', h1, h2⟩ := rdMap_ok h hm
        obtain ⟨_, _, _, _, cc, fz, g1, g2, _⟩ := h.rd hb
        obtain ⟨v', g3, g4⟩ := g2.get _ _ hv
        obtain ⟨_, g5⟩ := g4.map_inv
        subst g5
        obtain ⟨k1, k2⟩ := rises_ok hst
        refine ⟨_, clk, es', ?_, h1, h2, fun x hx => ?_, ?_⟩
        · simp only [World.cell?, g1]
          have : cc[a.off + 1]? = some (.map (some (σ r).blk)) := by rw [← Array.getElem?_toList]; exact g3
          simp [this]
        · obtain ⟨y, hy, _, _, hyb⟩ := h2.mem x hx
          rw [← hyb]; exact (k1 y hy).2
        · rw [← h2.borns]; exact k2
      · cases hf
    · cases hf
  · cases hf
theorem used_call {C : Cx} {f : Nat} (hU : UsedSpec C.P f) {B : Nat} {args : List Value} {s s' : St} {v : Value} (h : usedA args s = .ok (v, s')) : CallOk C B f args s v s' := by
  unfold usedA at h
  split at h
  · split at h
    · split at h
      · rename_i a
        obtain ⟨es, hf, h⟩ := bnd_ok.1 h
        obtain ⟨n, hn, h⟩ := bnd_ok.1 h
        split at h
        · rename_i hlt
          cases h
          intro σ w args' hr ha
          obtain ⟨x', rfl, hx⟩ := LRel.flatten1 ha
          obtain ⟨hsp, _, rfl⟩ := hx.ptr_inv
          obtain ⟨bm, clock, es', h1, h2, h3, h4, h5⟩ := filesA_ok hr hsp hf
          obtain ⟨g1, g2⟩ := lens_rel h3 hn
          refine (hU _ _ bm es' clock w h1 h2 h4 h5 g2).mono ?_
          rintro e w' ⟨rfl, hB⟩
          rw [g1]
          have hw : wrap64 (n : Int) = Int.ofNat n := by
            rw [Nat.blt_eq] at hlt
            unfold wrap64
            show _ = (n : Int)
            omega
          obtain ⟨k1, k2⟩ := hr.below hB
          exact ⟨_, σ, rfl, by rw [hw]; exact .flat rfl, k1, k2⟩
        · cases h
      · cases h
    · cases h
  · cases h
end Go.Proofs.YtoddlefhlicfiaaGreatDoorR.X

/- List's answer, from its walk: the keys that fit, sorted. -/
set_option linter.unusedSimpArgs false
set_option linter.unusedVariables false
namespace Go.Proofs.YtoddlefhlicfiaaGreatDoorR.X
open Go Go.RowKit Go.Sort

/-- a key's bytes -/
def keyL (e : MapEntry) : List UInt8 := match e.key with
  | .string b => b.data.toList
  | _ => []
def keepB (pre : ByteArray) (e : MapEntry) : Bool := Lib.hasPrefix (keyL e) pre.data.toList
def sortedL (es : List MapEntry) (pre : ByteArray) : List (List UInt8) := ((es.filter (keepB pre)).map keyL).mergeSort fun x y => decide (x ≤ y)
/-- What List's walk gives. -/
def ListSpec (P : Program) (f ask T : Nat) : Prop := ∀ (b o : Nat) (pre : ByteArray) (w : World) (R : World → Prop), (Calls P ask #[.pointer (some ⟨b, o, none⟩), .slice none 0 0] w fun e w1 => e = .returned (.int .i64 0) ∧ R w1) →
  (∀ w1, R w1 → ∃ (bm clock : Nat) (es : Array MapEntry), w1.cell? ⟨b, o + 1, none⟩ = some (.map (some bm)) ∧ w1.heap[bm]? = some (.map es clock) ∧ (∀ x ∈ es.toList, x.born < clock) ∧ (es.toList.map (·.born)).Nodup ∧ (∀ x ∈ es.toList, ∃ s, x.key = .string s) ∧ es.size ≤ 1000000) →
  Calls P f #[.pointer (some ⟨b, o, none⟩), .string pre] w fun e w' => ∃ w1, R w1 ∧ ∀ bm clock es, w1.cell? ⟨b, o + 1, none⟩ = some (.map (some bm)) → w1.heap[bm]? = some (.map es clock) →
    ∃ v, e = .returned (.tuple #[v, .int .i64 0]) ∧ w'.ownsRow w1.heap.size T 1 v (sortedL es.toList pre).length ((sortedL es.toList pre).map encStr) ∧ (sortedL es.toList pre = [] → v = .slice none 0 0) ∧ Below w1.heap.size w1 w'

/- bytes in order -/
theorem ltB_lt : ∀ (a b : List UInt8), ltB a b = true ↔ a < b
  | a, [] => by simp [ltB]
  | [], b :: y => by simp [ltB]
  | a :: x, b :: y => by
    rw [List.cons_lt_cons_iff]
    unfold ltB
    cases h1 : Nat.blt a.toNat b.toNat with
    | true =>
      rw [Nat.blt_eq] at h1
      simp only [true_iff]
      exact .inl (UInt8.lt_iff_toNat_lt.2 h1)
    | false =>
      have h1 : ¬ a.toNat < b.toNat := fun h => by rw [← Nat.blt_eq] at h; rw [h] at h1; cases h1
      have h1' : ¬ a < b := fun h => h1 (UInt8.lt_iff_toNat_lt.1 h)
      cases h2 : Nat.beq a.toNat b.toNat with
      | true =>
        have h3 : a = b := UInt8.toNat_inj.1 (Nat.eq_of_beq_eq_true h2)
        simp only [ltB_lt x y]
        exact ⟨fun h => .inr ⟨h3, h⟩, fun h => h.elim (fun h => absurd h h1') (fun h => h.2)⟩
      | false =>
        have h3 : a ≠ b := fun e => by subst e; simp at h2
        simp only [Bool.false_eq_true, false_iff]
        rintro (h | h)
        · exact h1' h
        · exact h3 h.1
def insL (x : List UInt8) : List (List UInt8) → List (List UInt8)
  | [] => [x]
  | y :: l => match ltB y x with
    | true => y :: insL x l
    | false => x :: y :: l
def sortL : List (List UInt8) → List (List UInt8)
  | [] => []
  | x :: l => insL x (sortL l)
theorem insL_perm (x : List UInt8) : ∀ l : List (List UInt8), (insL x l).Perm (x :: l)
  | [] => .refl _
  | y :: l => by
    unfold insL
    split
    · exact ((insL_perm x l).cons y).trans (.swap x y l)
    · exact .refl _
theorem sortL_perm : ∀ l : List (List UInt8), (sortL l).Perm l
  | [] => .refl _
  | x :: l => (insL_perm x _).trans ((sortL_perm l).cons x)
theorem insL_sorted (x : List UInt8) : ∀ l : List (List UInt8), l.Pairwise (fun a b => leB a b = true) → (insL x l).Pairwise (fun a b => leB a b = true)
  | [], _ => by simp [insL]
  | y :: l, h => by
    obtain ⟨h1, h2⟩ := List.pairwise_cons.1 h
    unfold insL
    cases hb : ltB y x with
    | true =>
      have hyx : y < x := (ltB_lt y x).1 hb
      refine List.pairwise_cons.2 ⟨fun z hz => ?_, insL_sorted x l h2⟩
      rcases List.mem_cons.1 ((insL_perm x l).mem_iff.1 hz) with rfl | hz
      · simp only [leB, decide_eq_true_eq]; exact List.le_of_lt hyx
      · exact h1 z hz
    | false =>
      have hxy : x ≤ y := List.not_lt.1 fun h => by rw [(ltB_lt y x).2 h] at hb; cases hb
      refine List.pairwise_cons.2 ⟨fun z hz => ?_, h⟩
      rcases List.mem_cons.1 hz with rfl | hz
      · simp only [leB, decide_eq_true_eq]; exact hxy
      · have := h1 z hz
        simp only [leB, decide_eq_true_eq] at this ⊢
        exact List.le_trans hxy this
theorem sortL_sorted : ∀ l : List (List UInt8), (sortL l).Pairwise (fun a b => leB a b = true)
  | [] => List.Pairwise.nil
  | x :: l => insL_sorted x _ (sortL_sorted l)
theorem sortL_eq (l : List (List UInt8)) : sortL l = l.mergeSort leB := by
  have tr : ∀ a b c : List UInt8, leB a b = true → leB b c = true → leB a c = true := fun a b c h1 h2 => by simp only [leB, decide_eq_true_eq] at *; exact List.le_trans h1 h2
  have to : ∀ a b : List UInt8, (leB a b || leB b a) = true := fun a b => by simp only [leB, Bool.or_eq_true, decide_eq_true_eq]; exact List.le_total a b
  refine List.Perm.eq_of_pairwise (le := fun a b => leB a b = true) (fun a b _ _ h1 h2 => ?_) (sortL_sorted l) (List.pairwise_mergeSort tr to l) ((sortL_perm l).trans (List.mergeSort_perm l leB).symm)
  simp only [leB, decide_eq_true_eq] at h1 h2
  exact List.le_antisymm h1 h2
def preL : List UInt8 → List UInt8 → Bool
  | [], _ => true
  | _ :: _, [] => false
  | a :: x, b :: y => match Nat.beq a.toNat b.toNat with
    | true => preL x y
    | false => false
theorem preL_eq : ∀ a b : List UInt8, preL a b = a.isPrefixOf b
  | [], _ => by simp [preL]
  | _ :: _, [] => by simp [preL]
  | a :: x, b :: y => by
    unfold preL
    rw [List.isPrefixOf_cons_cons]
    cases h : Nat.beq a.toNat b.toNat with
    | true =>
      have h3 : a = b := UInt8.toNat_inj.1 (Nat.eq_of_beq_eq_true h)
      simp [h3, preL_eq x y]
    | false =>
      have h3 : a ≠ b := fun e => by subst e; simp at h
      simp [h3]
def namesA (pre : List UInt8) : List MapEntry → M (List (List UInt8))
  | [] => .ok []
  | e :: es => M.bnd (namesA pre es) fun l => match e.key with
    | .string b => match preL pre (bytesL b) with
      | true => .ok (bytesL b :: l)
      | false => .ok l
    | _ => .error "key"
/-- List -/
noncomputable def listA (C : Cx) (n ask elem : Nat) (args : List Value) (s : St) : M (Value × St) := match args with
  | [x, y] => match x, y with
    | .pointer (some a), .string pre => M.bnd (runK C n ask [.pointer (some a), .slice none 0 0] s) fun p => match p.1 with
      | .int .i64 m => match eqI m 0 with
        | true => M.bnd (filesA p.2 a) fun es => match Nat.ble es.length 1000000 with
          | true => M.bnd (namesA (bytesL pre) es) fun l => match sortL l with
            | [] => .ok (.tuple #[.slice none 0 0, .int .i64 0], p.2)
            | r => M.bnd (newO p.2 (.cells (r.map fun x => .string ⟨x.toArray⟩) elem true true)) fun q => .ok (.tuple #[.slice (some ⟨q.1, 0, none⟩) r.length (UNK + 1), .int .i64 0], q.2)
          | false => .error "list long"
        | false => .error "list asked"
      | _ => .error "list asked"
    | _, _ => .error "list"
  | _ => .error "list"
theorem names_rel {σ : Sg} {D : Nat → Prop} {pre : ByteArray} : ∀ {l r : List MapEntry} {ns : List (List UInt8)}, MRel σ D l r → namesA (bytesL pre) l = .ok ns → ns = (r.filter (keepB pre)).map keyL ∧ (∀ x ∈ r, ∃ s, x.key = .string s) ∧ l.length = r.length
  | [], [], ns, _, h => by cases h; exact ⟨rfl, (fun x hx => by cases hx), rfl⟩
  | e :: l, e' :: r, ns, hm, h => by
    obtain ⟨ms, h1, h⟩ := bnd_ok.1 h
    obtain ⟨g1, g2, g3⟩ := names_rel hm.2 h1
    split at h
    · rename_i b hb
      have hk := hm.1.1
      rw [hb] at hk
      have hk' : e'.key = .string b := hk.of_flat rfl
      have hkl : keyL e' = bytesL b := by simp only [keyL, hk']; rfl
      have hkeep : keepB pre e' = preL (bytesL pre) (bytesL b) := by rw [preL_eq, ← hkl]; rfl
      refine ⟨?_, fun x hx => ?_, by simp [g3]⟩
      · split at h
        · rename_i hp
          cases h
          rw [List.filter_cons, hkeep, hp]
          simp only [if_true, List.map_cons, hkl, g1]
        · rename_i hp
          cases h
          rw [List.filter_cons, hkeep, hp]
          simpa using g1
      · rcases List.mem_cons.1 hx with rfl | hx
        · exact ⟨b, hk'⟩
        · exact g2 x hx
    · cases h
theorem LRel.strs {σ : Sg} {D : Nat → Prop} : ∀ l : List (List UInt8), LRel σ D (l.map fun x => Value.string ⟨x.toArray⟩) (l.map encStr)
  | [] => trivial
  | x :: l => ⟨.flat rfl, LRel.strs l⟩
theorem list_call {C : Cx} (ok : CxOk C) (hN : NameOk C.P) (hI : IntrOk C) (hM : C.P.follows .mixedOrders = true) {n f ask elem : Nat} (hL : ListSpec C.P f ask elem) {B : Nat} {args : List Value} {s s' : St} {v : Value}
    (h : listA C n ask elem args s = .ok (v, s')) : CallOk C B f args s v s' := by
  unfold listA at h
  split at h
  · split at h
    · rename_i a pre
      obtain ⟨⟨v1, s1⟩, h1, h⟩ := bnd_ok.1 h
      simp only at h
      split at h
      · rename_i m
        split at h
        · rename_i hm
          obtain ⟨es, hf, h⟩ := bnd_ok.1 h
          split at h
          · rename_i hle
            obtain ⟨ns, hns, h⟩ := bnd_ok.1 h
            have hm0 : m = 0 := by
              cases m with
              | ofNat k => exact congrArg Int.ofNat (Nat.eq_of_beq_eq_true hm)
              | negSucc k => cases hm
            subst hm0
            intro σ w args' hr ha
            obtain ⟨x', y', rfl, hx, hy⟩ := LRel.flatten2 ha
            have hxr := hx
            obtain ⟨hsp, hD, rfl⟩ := hx.ptr_inv
            have hy' := hy.of_flat rfl
            subst hy'
            have hask : Calls C.P ask #[.pointer (some ⟨(σ a.block).blk, a.off, none⟩), .slice none 0 0] w fun e w1 => e = .returned (.int .i64 0) ∧ ∃ σ1, HRel C B σ1 s1 w1 ∧ Ext σ σ1 s s1 w w1 := by
              refine (call_ok ok hN hI hM n (B := B) (runK_ok h1) σ w [_, .slice none 0 0] hr ⟨hxr, .flat rfl, trivial⟩).mono ?_
              rintro e w1 ⟨v', σ1, rfl, g1, g2, g3⟩
              exact ⟨by rw [g1.of_flat rfl], σ1, g2, g3⟩
            have files : ∀ w1 σ1, HRel C B σ1 s1 w1 → Ext σ σ1 s s1 w w1 → ∃ (bm clock : Nat) (es' : Array MapEntry), w1.cell? ⟨(σ a.block).blk, a.off + 1, none⟩ = some (.map (some bm)) ∧ w1.heap[bm]? = some (.map es' clock) ∧ (∀ x ∈ es'.toList, x.born < clock) ∧ (es'.toList.map (·.born)).Nodup ∧
                ns = (es'.toList.filter (keepB pre)).map keyL ∧ (∀ x ∈ es'.toList, ∃ s, x.key = .string s) ∧ es'.size ≤ 1000000 := by
              intro w1 σ1 k1 k2
              obtain ⟨bm, clock, es', c1, c2, c3, c4, c5⟩ := filesA_ok k1 hsp hf
              rw [k2.sg a.block hD] at c1
              obtain ⟨d1, d2, d3⟩ := names_rel c3 hns
              refine ⟨bm, clock, es', c1, c2, c4, c5, d1, d2, ?_⟩
              have := Nat.le_of_ble_eq_true hle
              rw [d3] at this
              simpa using this
            refine (hL _ _ pre w _ hask ?_).mono ?_
            · rintro w1 ⟨σ1, k1, k2⟩
              obtain ⟨bm, clock, es', c1, c2, c3, c4, _, c6, c7⟩ := files w1 σ1 k1 k2
              exact ⟨bm, clock, es', c1, c2, c3, c4, c6, c7⟩
            rintro e w' ⟨w1, ⟨σ1, k1, k2⟩, hall⟩
            obtain ⟨bm, clock, es', c1, c2, c3, c4, c5, c6, c7⟩ := files w1 σ1 k1 k2
            obtain ⟨v', rfl, hown, hnil, hB⟩ := hall bm clock es' c1 c2
            have hsl : sortedL es'.toList pre = sortL ns := by rw [sortL_eq, c5]; rfl
            rw [hsl] at hown hnil
            obtain ⟨k3, k4⟩ := k1.below hB
            split at h
            · rename_i h0
              cases h
              have hv' := hnil h0
              subst hv'
              exact ⟨_, σ1, rfl, LRel.tup (l := [.slice none 0 0, .int .i64 0]) (r := [.slice none 0 0, .int .i64 0]) ⟨.flat rfl, .flat rfl, trivial⟩, k3, Ext.trans hr k1 k2 k4⟩
            · rename_i h0
              obtain ⟨⟨q, s2⟩, hq, h⟩ := bnd_ok.1 h
              cases h
              have hq1 : q = s1.nx := by
                obtain ⟨_, _, h2⟩ := bnd_ok.1 hq
                injection h2 with h2
                injection h2 with h2 _
                exact h2.symm
              subst hq1
              rcases hown.2 with ⟨_, hn0⟩ | ⟨g, cap, cur, rfl, hbase, hbk, g1, g2, g3, g4⟩
              · exact absurd (List.length_eq_zero_iff.1 hn0) (fun e => h0 e)
              · have hot : ∀ i, i < s1.nx → more σ1 s1.nx ⟨g, cur.size⟩ i = σ1 i := fun i hi => more_other σ1 _ (by omega)
                have k5 := k3.congr (σ' := more σ1 s1.nx ⟨g, cur.size⟩) hot
                have hpre : PRel (more σ1 s1.nx ⟨g, cur.size⟩) (· < s1.nx) ((sortL ns).map fun x => Value.string ⟨x.toArray⟩) cur.toList := by
                  have := LRel.pre (LRel.strs (σ := more σ1 s1.nx ⟨g, cur.size⟩) (D := (· < s1.nx)) (sortL ns)) (cur.toList.drop ((sortL ns).length * 1))
                  have e1 : (sortL ns).map encStr ++ cur.toList.drop ((sortL ns).length * 1) = cur.toList := by rw [← g4, List.take_append_drop]
                  rw [e1] at this
                  exact this
                obtain ⟨k6, k7, k8, k9⟩ := k5.adopt (ao := .cells ((sortL ns).map fun x => Value.string ⟨x.toArray⟩) elem true true) (o' := .cells cur elem (0, 0)) hq rfl (by rw [more_same]; exact hbk)
                  (by rw [more_same]; exact ⟨cur, (0, 0), rfl, hpre, (fun e => by cases e), (fun _ => .inl rfl), rfl⟩) (by rw [more_same]; exact Nat.le_trans k1.big hbase)
                  (fun j hj => by rw [more_same, hot j (k5.live_lt hj)]; have := k1.live_blk hj; show (σ1 j).blk ≠ g; omega)
                have hext : Ext σ1 (more σ1 s1.nx ⟨g, cur.size⟩) s1 s2 w1 w' := by
                  refine ⟨hot, by omega, hB.size, fun k hk _ => hB.block k hk, fun i hi => ?_, fun i hi => ?_, hB.os, hB.tape, hB.output⟩
                  · rcases k7 i hi with h2 | h2
                    · exact .inl h2
                    · subst h2; exact .inr (.inl (by rw [more_same]; exact hbase))
                  · rcases k9 i hi with h2 | h2
                    · exact .inl h2
                    · subst h2; exact .inr (.inl (by rw [more_same]; exact hbase))
                refine ⟨_, more σ1 s1.nx ⟨g, cur.size⟩, rfl, ?_, k6, Ext.trans hr k1 k2 hext⟩
                · refine LRel.tup (l := [.slice (some ⟨s1.nx, 0, none⟩) (sortL ns).length (UNK + 1), .int .i64 0]) (r := [.slice (some ⟨g, 0, none⟩) (sortL ns).length cap, .int .i64 0]) ⟨?_, .flat rfl, trivial⟩
                  have := VRel.sliceU (σ := more σ1 s1.nx ⟨g, cur.size⟩) (D := (· < s2.nx)) (b := s1.nx) (o := 0) (l := (sortL ns).length) (c := cap) (z := 1) (by show s1.nx < s2.nx; omega) g1 (by rw [more_same]; show 0 + cap * 1 ≤ cur.size; omega)
                  rw [more_same] at this
                  exact this
          · cases h
        · cases h
      · cases h
    · cases h
  · cases h
end Go.Proofs.YtoddlefhlicfiaaGreatDoorR.X

/- The digest's turned: a number's bits turned. -/
set_option linter.unusedSimpArgs false
set_option linter.unusedVariables false
namespace Go.Proofs.YtoddlefhlicfiaaGreatDoorR.X
open Go Go.RowKit

/-- What turned's walk gives. -/
def TurnedSpec (P : Program) (f : Nat) : Prop := ∀ (m s k : Nat) (w : World), m < 4294967296 → s + k = 32 → 1 ≤ k → 1 ≤ s →
  Calls P f #[.int .u32 (m : Int), .int .i64 (k : Int)] w fun e w' => e = .returned (.int .u32 ((Nat.lor (m * 2 ^ s % 4294967296) (m / 2 ^ k) : Nat) : Int)) ∧ w' = w
def turnedA (args : List Value) (s : St) : M (Value × St) := match args with
  | [x, y] => match x with
    | .int .u32 a => match y with
      | .int .i64 b => match a with
        | .ofNat m => match b with
          | .ofNat k => match Nat.blt m 4294967296 && Nat.ble 1 k && Nat.ble k 31 with
            | true => .ok (.int .u32 (.ofNat (Nat.lor (Nat.mod (Nat.mul m (Nat.pow 2 (Nat.sub 32 k))) 4294967296) (Nat.div m (Nat.pow 2 k)))), s)
            | false => .error "turned"
          | _ => .error "turned"
        | _ => .error "turned"
      | _ => .error "turned"
    | _ => .error "turned"
  | _ => .error "turned"
theorem turned_call {C : Cx} {f : Nat} (hT : TurnedSpec C.P f) {B : Nat} {args : List Value} {s s' : St} {v : Value} (h : turnedA args s = .ok (v, s')) : CallOk C B f args s v s' := by
  unfold turnedA at h
  split at h
  · split at h
    · split at h
      · split at h
        · rename_i m
          split at h
          · rename_i k
            split at h
            · rename_i hc
              cases h
              simp only [Bool.and_eq_true] at hc
              have h1 : m < 4294967296 := by have := hc.1.1; rw [Nat.blt_eq] at this; exact this
              have h2 := Nat.le_of_ble_eq_true hc.1.2
              have h3 := Nat.le_of_ble_eq_true hc.2
              intro σ w args' hr ha
              obtain ⟨x', y', rfl, hx, hy⟩ := LRel.flatten2 ha
              have hx := hx.of_flat rfl
              have hy := hy.of_flat rfl
              subst hx
              subst hy
              refine (hT m (32 - k) k w h1 (by omega) h2 (by omega)).mono ?_
              rintro e w' ⟨rfl, rfl⟩
              exact ⟨_, σ, rfl, .flat rfl, hr, .refl σ s w'⟩
            · cases h
          · cases h
        · cases h
      · cases h
    · cases h
  · cases h
end Go.Proofs.YtoddlefhlicfiaaGreatDoorR.X

/- Loose's answer, from its walk: the names of the files that are not synced, sorted. -/
set_option linter.unusedSimpArgs false
set_option linter.unusedVariables false
namespace Go.Proofs.YtoddlefhlicfiaaGreatDoorR.X
open Go Go.RowKit Go.Sort

/-- is a file not synced? -/
def notSynced : Value → Bool
  | .agg a => match a[1]? with
    | some v => match v with
      | .bool b => !b
      | _ => false
    | none => false
  | _ => false
def keepL (e : MapEntry) : Bool := notSynced e.val
def looseL (es : List MapEntry) : List (List UInt8) := ((es.filter keepL).map keyL).mergeSort fun x y => decide (x ≤ y)
/-- What Loose's walk gives. -/
def LooseSpec (P : Program) (f T : Nat) : Prop := ∀ (b o bm clock : Nat) (es : Array MapEntry) (w : World), w.cell? ⟨b, o + 1, none⟩ = some (.map (some bm)) → w.heap[bm]? = some (.map es clock) → (∀ x ∈ es.toList, x.born < clock) →
  (es.toList.map (·.born)).Nodup → (∀ x ∈ es.toList, ∃ s, x.key = .string s) → (∀ x ∈ es.toList, ∃ a l c d, x.val = .agg #[.slice a l c, .bool d]) → es.size ≤ 1000000 →
  Calls P f #[.pointer (some ⟨b, o, none⟩)] w fun e w' => ∃ v, e = .returned v ∧ w'.ownsRow w.heap.size T 1 v (looseL es.toList).length ((looseL es.toList).map encStr) ∧ (looseL es.toList = [] → v = .slice none 0 0) ∧ Below w.heap.size w w'
def looseNames : List MapEntry → M (List (List UInt8))
  | [] => .ok []
  | e :: es => M.bnd (looseNames es) fun l => M.bnd (fileA e.val) fun p => match e.key with
    | .string b => match p.2 with
      | true => .ok l
      | false => .ok (bytesL b :: l)
    | _ => .error "key"
/-- Loose -/
def looseA (elem : Nat) (args : List Value) (s : St) : M (Value × St) := match args with
  | [x] => match x with
    | .pointer p => match p with
      | some a => M.bnd (filesA s a) fun es => match Nat.ble es.length 1000000 with
        | true => M.bnd (looseNames es) fun l => match sortL l with
          | [] => .ok (.slice none 0 0, s)
          | r => M.bnd (newO s (.cells (r.map fun x => .string ⟨x.toArray⟩) elem true true)) fun q => .ok (.slice (some ⟨q.1, 0, none⟩) r.length (UNK + 1), q.2)
        | false => .error "loose long"
      | none => .error "loose"
    | _ => .error "loose"
  | _ => .error "loose"
theorem loose_rel {σ : Sg} {D : Nat → Prop} : ∀ {l r : List MapEntry} {ns : List (List UInt8)}, MRel σ D l r → looseNames l = .ok ns → ns = (r.filter keepL).map keyL ∧ (∀ x ∈ r, ∃ s, x.key = .string s) ∧ (∀ x ∈ r, ∃ a l c d, x.val = .agg #[.slice a l c, .bool d]) ∧ l.length = r.length
  | [], [], ns, _, h => by cases h; exact ⟨rfl, (fun x hx => by cases hx), (fun x hx => by cases hx), rfl⟩
  | e :: l, e' :: r, ns, hm, h => by
    obtain ⟨ms, h1, h⟩ := bnd_ok.1 h
    obtain ⟨⟨k, d⟩, h2, h⟩ := bnd_ok.1 h
    obtain ⟨g1, g2, g3, g4⟩ := loose_rel hm.2 h1
    obtain ⟨a, c, hv⟩ := fileA_ok h2
    have hr := hm.1.2.1
    rw [hv] at hr
    obtain ⟨a', c', hv'⟩ := file_rel hr
    simp only at h
    split at h
    · rename_i b hb
      have hk := hm.1.1
      rw [hb] at hk
      have hk' : e'.key = .string b := hk.of_flat rfl
      have hkl : keyL e' = bytesL b := by simp only [keyL, hk']; rfl
      have hkeep : keepL e' = !d := by simp only [keepL, hv']; rfl
      refine ⟨?_, fun x hx => ?_, fun x hx => ?_, by simp [g4]⟩
      · cases d with
        | true =>
          cases h
          rw [List.filter_cons, hkeep]
          simpa using g1
        | false =>
          cases h
          rw [List.filter_cons, hkeep]
          simp only [Bool.not_false, if_true, List.map_cons, hkl, g1]
      · rcases List.mem_cons.1 hx with rfl | hx
        · exact ⟨b, hk'⟩
        · exact g2 x hx
      · rcases List.mem_cons.1 hx with rfl | hx
        · exact ⟨_, _, _, _, hv'⟩
        · exact g3 x hx
    · cases h
theorem loose_call {C : Cx} {f elem : Nat} (hL : LooseSpec C.P f elem) {B : Nat} {args : List Value} {s s' : St} {v : Value} (h : looseA elem args s = .ok (v, s')) : CallOk C B f args s v s' := by
  unfold looseA at h
  split at h
  · split at h
    · split at h
      · rename_i a
        obtain ⟨es, hf, h⟩ := bnd_ok.1 h
        split at h
        · rename_i hle
          obtain ⟨ns, hns, h⟩ := bnd_ok.1 h
          intro σ w args' hr ha
          obtain ⟨x', rfl, hx⟩ := LRel.flatten1 ha
          obtain ⟨hsp, hD, rfl⟩ := hx.ptr_inv
          obtain ⟨bm, clock, es', c1, c2, c3, c4, c5⟩ := filesA_ok hr hsp hf
          obtain ⟨d1, d2, d3, d4⟩ := loose_rel c3 hns
          refine (hL _ _ bm clock es' w c1 c2 c4 c5 d2 d3 ?_).mono ?_
          · have := Nat.le_of_ble_eq_true hle
            rw [d4] at this
            simpa using this
          rintro e w' ⟨v', rfl, hown, hnil, hB⟩
          have hsl : looseL es'.toList = sortL ns := by rw [sortL_eq, d1]; rfl
          rw [hsl] at hown hnil
          obtain ⟨k3, k4⟩ := hr.below hB
          split at h
          · rename_i h0
            cases h
            have hv' := hnil h0
            subst hv'
            exact ⟨_, σ, rfl, .flat rfl, k3, k4⟩
          · rename_i h0
            obtain ⟨⟨q, s2⟩, hq, h⟩ := bnd_ok.1 h
            cases h
            have hq1 : q = s.nx := by
              obtain ⟨_, _, h2⟩ := bnd_ok.1 hq
              injection h2 with h2
              injection h2 with h2 _
              exact h2.symm
            subst hq1
            rcases hown.2 with ⟨_, hn0⟩ | ⟨g, cap, cur, rfl, hbase, hbk, g1, g2, g3, g4⟩
            · exact absurd (List.length_eq_zero_iff.1 hn0) (fun e => h0 e)
            · have hot : ∀ i, i < s.nx → more σ s.nx ⟨g, cur.size⟩ i = σ i := fun i hi => more_other σ _ (by omega)
              have k5 := k3.congr (σ' := more σ s.nx ⟨g, cur.size⟩) hot
              have hpre : PRel (more σ s.nx ⟨g, cur.size⟩) (· < s.nx) ((sortL ns).map fun x => Value.string ⟨x.toArray⟩) cur.toList := by
                have := LRel.pre (LRel.strs (σ := more σ s.nx ⟨g, cur.size⟩) (D := (· < s.nx)) (sortL ns)) (cur.toList.drop ((sortL ns).length * 1))
                have e1 : (sortL ns).map encStr ++ cur.toList.drop ((sortL ns).length * 1) = cur.toList := by rw [← g4, List.take_append_drop]
                rw [e1] at this
                exact this
              obtain ⟨k6, k7, k8, k9⟩ := k5.adopt (ao := .cells ((sortL ns).map fun x => Value.string ⟨x.toArray⟩) elem true true) (o' := .cells cur elem (0, 0)) hq rfl (by rw [more_same]; exact hbk)
                (by rw [more_same]; exact ⟨cur, (0, 0), rfl, hpre, (fun e => by cases e), (fun _ => .inl rfl), rfl⟩) (by rw [more_same]; exact Nat.le_trans hr.big hbase)
                (fun j hj => by rw [more_same, hot j (k5.live_lt hj)]; have := hr.live_blk hj; show (σ j).blk ≠ g; omega)
              have hext : Ext σ (more σ s.nx ⟨g, cur.size⟩) s s2 w w' := by
                refine ⟨hot, by omega, hB.size, fun k hk _ => hB.block k hk, fun i hi => ?_, fun i hi => ?_, hB.os, hB.tape, hB.output⟩
                · rcases k7 i hi with h2 | h2
                  · exact .inl h2
                  · subst h2; exact .inr (.inl (by rw [more_same]; exact hbase))
                · rcases k9 i hi with h2 | h2
                  · exact .inl h2
                  · subst h2; exact .inr (.inl (by rw [more_same]; exact hbase))
              refine ⟨_, more σ s.nx ⟨g, cur.size⟩, rfl, ?_, k6, hext⟩
              have := VRel.sliceU (σ := more σ s.nx ⟨g, cur.size⟩) (D := (· < s2.nx)) (b := s.nx) (o := 0) (l := (sortL ns).length) (c := cap) (z := 1) (by show s.nx < s2.nx; omega) g1 (by rw [more_same]; show 0 + cap * 1 ≤ cur.size; omega)
              rw [more_same] at this
              exact this
        · cases h
      · cases h
    · cases h
  · cases h
end Go.Proofs.YtoddlefhlicfiaaGreatDoorR.X

/- Calls without memory that are remembered: neither their arguments nor their answers hold an address; they serve at any moment. -/
set_option linter.unusedSimpArgs false
set_option linter.unusedVariables false
namespace Go.Proofs.YtoddlefhlicfiaaGreatDoorR.X
open Go Go.RowKit

def allFlat : List Value → Bool
  | [] => true
  | v :: l => match flat v with
    | true => allFlat l
    | false => false
def allFlatZ : List Value → Bool
  | [] => true
  | v :: l => match flatZ v with
    | true => allFlatZ l
    | false => false
/-- no address in it -/
def plainV (v : Value) : Bool := match v with
  | .tuple a => allFlatZ a.toList
  | .func f a c => match f with
    | .func _ => allFlat a.toList && allFlat c.toList
    | _ => false
  | v => flatZ v
def allPlain : List Value → Bool
  | [] => true
  | v :: l => match plainV v with
    | true => allPlain l
    | false => false
section
variable {σ : Sg} {D : Nat → Prop}
theorem LRel.flats : ∀ {l r : List Value}, allFlat l = true → LRel σ D l r → r = l
  | [], [], _, _ => rfl
  | v :: l, v' :: r, h, hr => by
    simp only [allFlat] at h
    split at h
    · rename_i hf
      rw [hr.1.of_flat hf, LRel.flats h hr.2]
    · cases h
theorem LRel.flats_refl : ∀ {l : List Value}, allFlat l = true → LRel σ D l l
  | [], _ => trivial
  | v :: l, h => by
    simp only [allFlat] at h
    split at h
    · rename_i hf
      exact ⟨.flat hf, LRel.flats_refl h⟩
    · cases h
theorem allFlat_eq : ∀ {l : List Value}, l.all flat = true → allFlat l = true
  | [], _ => rfl
  | v :: l, h => by
    rw [List.all_cons, Bool.and_eq_true] at h
    simp only [allFlat, h.1]
    exact allFlat_eq h.2
theorem VRel.flatZ_eq {v v' : Value} (hf : flatZ v = true) (h : VRel σ D v v') : v' = v := by
  unfold flatZ at hf
  split at hf
  · rename_i cs
    obtain ⟨a', rfl, hl⟩ := h.agg_inv
    exact congrArg Value.agg (Array.ext' (LRel.flats (allFlat_eq hf) hl))
  · exact h.of_flat hf
theorem LRel.flatZs : ∀ {l r : List Value}, allFlatZ l = true → LRel σ D l r → r = l
  | [], [], _, _ => rfl
  | v :: l, v' :: r, h, hr => by
    simp only [allFlatZ] at h
    split at h
    · rename_i hf
      rw [hr.1.flatZ_eq hf, LRel.flatZs h hr.2]
    · cases h
theorem LRel.flatZs_refl : ∀ {l : List Value}, allFlatZ l = true → LRel σ D l l
  | [], _ => trivial
  | v :: l, h => by
    simp only [allFlatZ] at h
    split at h
    · rename_i hf
      exact ⟨zero_rel hf, LRel.flatZs_refl h⟩
    · cases h
theorem VRel.plain_eq {v v' : Value} (hf : plainV v = true) (h : VRel σ D v v') : v' = v := by
  unfold plainV at hf
  split at hf
  · obtain ⟨a', rfl, hl⟩ := h.tuple_inv
    exact congrArg Value.tuple (Array.ext' (LRel.flatZs hf hl))
  · split at hf
    · simp only [Bool.and_eq_true] at hf
      obtain ⟨a', c', rfl, h1, h2⟩ := h.func_inv
      rw [Array.ext' (LRel.flats hf.1 h1), Array.ext' (LRel.flats hf.2 h2)]
    · cases hf
  · exact h.flatZ_eq hf
theorem VRel.plain_refl {v : Value} (hf : plainV v = true) : VRel σ D v v := by
  unfold plainV at hf
  split at hf
  · exact LRel.tup (LRel.flatZs_refl hf)
  · split at hf
    · simp only [Bool.and_eq_true] at hf
      exact .func rfl (LRel.arr (LRel.flats_refl hf.1)) rfl (LRel.arr (LRel.flats_refl hf.2))
    · cases hf
  · exact zero_rel hf
theorem LRel.plains : ∀ {l r : List Value}, allPlain l = true → LRel σ D l r → r = l
  | [], [], _, _ => rfl
  | v :: l, v' :: r, h, hr => by
    simp only [allPlain] at h
    split at h
    · rename_i hf
      rw [hr.1.plain_eq hf, LRel.plains h hr.2]
    · cases h
theorem LRel.plains_refl : ∀ {l : List Value}, allPlain l = true → LRel σ D l l
  | [], _ => trivial
  | v :: l, h => by
    simp only [allPlain] at h
    split at h
    · rename_i hf
      exact ⟨VRel.plain_refl hf, LRel.plains_refl h⟩
    · cases h
end

/- keys, by which what is told is found -/
noncomputable def bytesN (l : List UInt8) : Nat := List.rec 0 (fun b _ r => Nat.add b.toNat (Nat.mul 256 r)) l
noncomputable def keyF (v : Value) : Nat := match v with
  | .string b => Nat.succ (bytesN (bytesL b))
  | .int _ i => match i with
    | .ofNat n => n
    | .negSucc n => n
  | .bool b => match b with
    | true => 1
    | false => 0
  | .func f _ _ => match f with
    | .func n => n
    | _ => 0
  | _ => 0
noncomputable def keyFs (l : List Value) : Nat := List.rec 1 (fun v _ r => Nat.add (keyF v) (Nat.mul 2305843009213693951 r)) l
noncomputable def keyV (v : Value) : Nat := match v with
  | .agg a => keyFs a.toList
  | v => keyF v
noncomputable def keyArgs (l : List Value) : Nat := List.rec 1 (fun v _ r => Nat.add (keyV v) (Nat.mul 2305843009213693951 r)) l
/-- a call and its answer, neither of which holds an address -/
structure Told where
  key : Nat
  args : List Value
  res : Value
noncomputable def T (args : List Value) (res : Value) : Told := ⟨keyArgs args, args, res⟩
def toldPlain (t : Told) : Bool := allPlain t.args && plainV t.res
/-- It serves at any moment. -/
def ToldOk (C : Cx) (f : Nat) (t : Told) : Prop := ∀ (B : Nat) (s : St), CallOk C B f t.args s t.res s
theorem told_ok {C : Cx} (hG : C.G = 0) {f : Nat} {t : Told} {s1 : St} (hp : toldPlain t = true) (h : CallOk C 0 f t.args emptyS t.res s1) : ToldOk C f t := by
  simp only [toldPlain, Bool.and_eq_true] at hp
  intro B s σ w args' hr ha
  have ea := LRel.plains hp.1 ha
  subst ea
  refine (h (fun _ => ⟨0, 0⟩) w t.args (empty_rel hG w) (LRel.plains_refl hp.1)).mono ?_
  rintro e w' ⟨v', σ', rfl, h1, h2, h3⟩
  have ev := VRel.plain_eq hp.2 h1
  subst ev
  obtain ⟨k1, k2⟩ := hr.below ⟨h3.os, h3.tape, h3.output, h3.size, fun k hk => h3.frame k hk (fun i hi => absurd hi (empty_fixed i))⟩
  exact ⟨_, σ, rfl, VRel.plain_refl hp.2, k1, k2⟩
noncomputable def findT (k : Nat) : List Told → List Value → Option Value
  | [], _ => none
  | t :: l, args => match Nat.beq t.key k with
    | true => match allL (sameV 8) t.args args with
      | true => some t.res
      | false => findT k l args
    | false => findT k l args
theorem findT_mem {k : Nat} : ∀ {l : List Told} {args : List Value} {v : Value}, findT k l args = some v → ∃ t ∈ l, t.args = args ∧ t.res = v
  | [], _, _, h => by cases h
  | t :: l, args, v, h => by
    have rest : findT k l args = some v → ∃ u ∈ t :: l, u.args = args ∧ u.res = v := fun h => by
      obtain ⟨u, h1, h2⟩ := findT_mem h
      exact ⟨u, List.mem_cons_of_mem _ h1, h2⟩
    simp only [findT] at h
    split at h
    · split at h
      · rename_i he
        cases h
        exact ⟨t, List.mem_cons_self, allL_eq (sameV_eq 8) he, rfl⟩
      · exact rest h
    · exact rest h
def lookU : List (Nat × List Told) → Nat → Option (List Told)
  | [], _ => none
  | p :: l, g => match Nat.beq p.1 g with
    | true => some p.2
    | false => lookU l g
theorem lookU_mem : ∀ {l : List (Nat × List Told)} {g : Nat} {es : List Told}, lookU l g = some es → (g, es) ∈ l
  | [], g, es, h => by cases h
  | p :: l, g, es, h => by
    simp only [lookU] at h
    split at h
    · rename_i hb
      injection h with h
      rw [← Nat.eq_of_beq_eq_true hb, ← h]
      exact List.mem_cons_self
    · exact List.mem_cons_of_mem _ (lookU_mem h)
/-- what is told, else reckoned -/
noncomputable def toldOr (C : Cx) (n g : Nat) (es : List Told) (args : List Value) (s : St) : M (Value × St) := match findT (keyArgs args) es args with
  | some v => .ok (v, s)
  | none => runK C n g args s
noncomputable def withTold (C : Cx) (n : Nat) (tbl : List (Nat × List Told)) : Cx := { C with intr := fun g => match lookU tbl g with
  | none => C.intr g
  | some es => match hasBody C g with
    | true => some (toldOr C n g es)
    | false => none }
theorem withTold_P (C : Cx) (n : Nat) (tbl : List (Nat × List Told)) : (withTold C n tbl).P = C.P := rfl
theorem withTold_G (C : Cx) (n : Nat) (tbl : List (Nat × List Told)) : (withTold C n tbl).G = C.G := rfl
theorem withTold_cx {C : Cx} (ok : CxOk C) (n : Nat) (tbl : List (Nat × List Told)) : CxOk (withTold C n tbl) where
  types := ok.types
  funcs := ok.funcs
theorem withTold_ok {C : Cx} (ok : CxOk C) (hN : NameOk C.P) (hI : IntrOk C) (hM : C.P.follows .mixedOrders = true) {n : Nat} {tbl : List (Nat × List Told)}
    (h : ∀ p ∈ tbl, ∀ e ∈ p.2, ToldOk C p.1 e) : IntrOk (withTold C n tbl) where
  ext f i hf B args s v s' hi σ w args' hr ha := by
    obtain ⟨v', w', σ', h1, h2, h3, h4⟩ := hI.ext f i hf B args s v s' hi σ w args' (hr.cx (C := withTold C n tbl) (C' := C) (withTold_P C n tbl) (withTold_G C n tbl)) ha
    exact ⟨v', w', σ', h1, h2, h3.cx (C := C) (C' := withTold C n tbl) (withTold_P C n tbl).symm (withTold_G C n tbl).symm, h4⟩
  body f i hf := by
    simp only [withTold] at hf
    split at hf
    · exact hI.body f i hf
    · split at hf
      · rename_i hb
        unfold hasBody at hb
        split at hb
        · rename_i fn hfn
          exact ⟨fn, ok.funcs _ _ hfn, hb⟩
        · cases hb
      · cases hf
  call f i hf B args s v s' hi := by
    simp only [withTold] at hf
    split at hf
    · exact (hI.call f i hf B args s v s' hi).cx (C := C) (C' := withTold C n tbl) (withTold_P C n tbl).symm (withTold_G C n tbl).symm
    · rename_i es hes
      split at hf
      · injection hf with hf
        subst hf
        unfold toldOr at hi
        split at hi
        · rename_i r hm
          cases hi
          obtain ⟨t, h1, rfl, rfl⟩ := findT_mem hm
          exact ((h _ (lookU_mem hes)) t h1 B s).cx (C := C) (C' := withTold C n tbl) (withTold_P C n tbl).symm (withTold_G C n tbl).symm
        · exact (call_ok ok hN hI hM n (runK_ok hi)).cx (C := C) (C' := withTold C n tbl) (withTold_P C n tbl).symm (withTold_G C n tbl).symm
      · cases hf
def TldsOk (C : Cx) (g : Nat) : List Told → Prop
  | [] => True
  | e :: l => ToldOk C g e ∧ TldsOk C g l
def AllTold (C : Cx) : List (Nat × List Told) → Prop
  | [] => True
  | p :: l => TldsOk C p.1 p.2 ∧ AllTold C l
theorem TldsOk.get {C : Cx} {g : Nat} : ∀ {l : List Told}, TldsOk C g l → ∀ e ∈ l, ToldOk C g e
  | [], _, e, h => by cases h
  | a :: l, h, e, he => by
    rcases List.mem_cons.1 he with rfl | he
    · exact h.1
    · exact TldsOk.get h.2 e he
theorem AllTold.get {C : Cx} : ∀ {l : List (Nat × List Told)}, AllTold C l → ∀ p ∈ l, ∀ e ∈ p.2, ToldOk C p.1 e
  | [], _, p, h => by cases h
  | a :: l, h, p, hp => by
    rcases List.mem_cons.1 hp with rfl | hp
    · exact h.1.get
    · exact AllTold.get h.2 p hp
/-- A link of the chain, with calls that are told. -/
theorem chain2 {C : Cx} (ok : CxOk C) (hN : NameOk C.P) (hI : IntrOk C) (hM : C.P.follows .mixedOrders = true) {n : Nat} {utbl : List (Nat × List Told)} {tbl : List (Nat × List Entry)} (hU : AllTold C utbl) (h : AllOk C tbl) {f : Nat} {e : Entry}
    (hc : chunkK (withMemo (withTold C n utbl) n tbl) n f e = true) : EntryOk C f e :=
  (link (C := withTold C n utbl) (withTold_cx ok n utbl) hN (withTold_ok ok hN hI hM hU.get) hM (fun p hp e he => (h.get p hp e he).cx (C := C) (C' := withTold C n utbl) (withTold_P C n utbl).symm (withTold_G C n utbl).symm) hc).cx (C := withTold C n utbl) (C' := C) (withTold_P C n utbl) (withTold_G C n utbl)
theorem TldsOk.app {C : Cx} {g : Nat} : ∀ {l r : List Told}, TldsOk C g l → TldsOk C g r → TldsOk C g (l ++ r)
  | [], _, _, h => h
  | _ :: _, _, h1, h => ⟨h1.1, h1.2.app h⟩
/-- Calls that are told, reckoned by calls that are told. -/
noncomputable def toldAllK (C : Cx) (n f : Nat) : List Told → Bool
  | [] => true
  | t :: l => match runK C n f t.args emptyS with
    | .ok (v, _) => sameV 8 v t.res && toldPlain t && toldAllK C n f l
    | .error _ => false
theorem tlds_ok {C : Cx} (ok : CxOk C) (hN : NameOk C.P) (hI : IntrOk C) (hM : C.P.follows .mixedOrders = true) (hG : C.G = 0) {n : Nat} {utbl : List (Nat × List Told)} (hU : AllTold C utbl) {f : Nat} : ∀ {l : List Told},
    toldAllK (withTold C n utbl) n f l = true → TldsOk C f l
  | [], _ => trivial
  | t :: l, h => by
    simp only [toldAllK] at h
    split at h
    · rename_i v s1 hr
      simp only [Bool.and_eq_true] at h
      have hv := sameV_eq _ _ _ h.1.1
      subst hv
      have hc := call_ok (C := withTold C n utbl) (withTold_cx ok n utbl) hN (withTold_ok ok hN hI hM hU.get) hM n (B := 0) (runK_ok hr)
      exact ⟨told_ok hG h.1.2 (hc.cx (C := withTold C n utbl) (C' := C) (withTold_P C n utbl) (withTold_G C n utbl)), tlds_ok ok hN hI hM hG hU h.2⟩
    · cases h
/-- The chain's last, of a call with arguments that hold no address. -/
theorem chain_args {C : Cx} (hG : C.G = 0) {f nx : Nat} {args : List Value} {v : Value} (hp : allPlain args = true) (he : EntryOk C f { args := args, need := [], nx := 0, res := v, out := [], nx' := nx }) (hv : flat v = true) (w : World) :
    Calls C.P f args.toArray w fun e w' => e = .returned v ∧ Below w.heap.size w w' := by
  obtain ⟨s1, _, _, _, h⟩ := he
  refine (h 0 (fun _ => ⟨0, 0⟩) w args (empty_rel hG w) (LRel.plains_refl hp)).mono ?_
  rintro e w' ⟨v', σ', rfl, h1, h2, h3⟩
  rw [h1.of_flat hv]
  exact ⟨rfl, ⟨h3.os, h3.tape, h3.output, h3.size, fun k hk => h3.frame k hk (fun i hi => absurd hi (empty_fixed i))⟩⟩
/- short words for what is printed -/
/-- so many bytes of a number, the lowest first -/
noncomputable def u8s (n : Nat) : Nat → List Value := Nat.rec (fun _ => []) (fun _ r m => .int .u8 (.ofNat (Nat.mod m 256)) :: r (Nat.div m 256)) n
noncomputable def b8s (n : Nat) : Nat → List UInt8 := Nat.rec (fun _ => []) (fun _ r m => .ofNat (Nat.mod m 256) :: r (Nat.div m 256)) n
/-- a text -/
noncomputable def tx (n m : Nat) : Value := .string ⟨⟨b8s n m⟩⟩
end Go.Proofs.YtoddlefhlicfiaaGreatDoorR.X
