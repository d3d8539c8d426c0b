/- The executor, part C: its texts one behind the other (see each head). No statement of the seat stands here. -/
import Derived.Test.YtoddlefhlicfiaaGreatDoorRXB
import Derived.RangeFuncLeaves
import Derived.RangeFuncNested
import Derived.OwnWalkIn
import Derived.Sort.LoopGhostIn
set_option linter.unusedVariables false
set_option linter.unusedSimpArgs false
/- The executor's writes are the model's: copies, deletes, clears, steps over a text, slices turned into their own type. -/
set_option linter.unusedSimpArgs false
set_option linter.unusedVariables false
namespace Go.Proofs.YtoddlefhlicfiaaGreatDoorR.X
open Go

section
variable {C : Cx} (ok : CxOk C) {B : Nat} {σ : Sg} {D : Nat → Prop} {ρ : Operand → M Value} {a : Act} {o : Oper} {s s' : St} (he : ERel σ (· < s.nx) ρ a) {v : Value} {w : World}

theorem LRel.flatten2 {x y : Value} {l : List Value} (h : LRel σ D [x, y] l) : ∃ x' y', l = [x', y'] ∧ VRel σ D x x' ∧ VRel σ D y y' := by
  match l, h with
  | [x', y'], h => exact ⟨x', y', rfl, h.1, h.2.1⟩
theorem LRel.flatten1 {x : Value} {l : List Value} (h : LRel σ D [x] l) : ∃ x', l = [x'] ∧ VRel σ D x x' := by
  match l, h with
  | [x'], h => exact ⟨x', rfl, h.1⟩
theorem tup_done {σ' : Sg} {w' : World} (hrun : (execOp a.eval o).run C.P w = .ok (.value (.tuple #[])) w') (h1 : HRel C B σ' s' w') (h2 : Ext σ σ' s s' w w') : DoneAt C B σ o a s s' w (.tuple #[]) :=
  ⟨σ', w', _, _, hrun, .inl rfl, h1, h2, .tuple rfl (fun i v v' h => by simp at h)⟩
include ok
theorem do_copy (h : HRel C B σ s w) {c : Call} (ho : o.op = .call c) (hc : c.callee = .builtin .copy) {args : List Value} (ha : LRel σ (· < s.nx) args (c.args.map a.eval).toList) (hs : copyA C s c.argTypes args = .ok (v, s')) : DoneAt C B σ o a s s' w v := by
  obtain ⟨cs, hrun⟩ := run_builtin (P := C.P) (a := a) ho hc
  unfold copyA at hs
  split at hs
  · rename_i base dLen dCap src
    obtain ⟨d', src', hl, hd, hsrc⟩ := ha.flatten2
    have hargs : c.args.map a.eval = #[d', src'] := by apply Array.ext'; rw [hl]
    replace hs := bnd_ok.1 hs; obtain ⟨dt, hdt, hs⟩ := hs
    replace hs := bnd_ok.1 hs; obtain ⟨e, hel, hs⟩ := hs
    replace hs := bnd_ok.1 hs; obtain ⟨size, hsize, hs⟩ := hs
    replace hs := bnd_ok.1 hs; obtain ⟨m, hm, hs⟩ := hs
    replace hs := bnd_ok.1 hs; obtain ⟨l, hlc, hs⟩ := hs
    have hdt := some_ok.1 hdt
    have hlen := len_ok (P := C.P) (w := w) hsrc hm
    obtain ⟨l', hl1, hl2⟩ := first_ok (P := C.P) h hsrc hlc (fun m' hm' => by rw [hm] at hm'; injection hm' with hm'; subst hm'; exact Nat.min_le_left _ _)
    -- the model's run, up to its stores
    have go : ∀ (base' : Option Addr) (cap' : Nat) (w' : World), d' = .slice base' dLen cap' → (∀ a', base' = some a' → (storeCells a' l'.toList).run C.P w = .ok () w') → (base' = none → w' = w) →
        (execOp a.eval o).run C.P w = .ok (.value (.int .i64 (Nat.min m dLen))) w' := by
      intro base' cap' w' hd' hst hno
      rw [hrun w, hargs, hd']
      cases base' with
      | none =>
        have := hno rfl; subst this
        simp [builtin, Builtin.copy_, hdt, run_und ok (sliceElem_ok hel), hlen, run_size ok hsize, hl2, goInt]
      | some a' =>
        have hst := hst a' rfl
        simp [builtin, Builtin.copy_, hdt, run_und ok (sliceElem_ok hel), hlen, run_size ok hsize, hl2, hst, goInt]
    have same : ∀ (base' : Option Addr) (cap' : Nat), d' = .slice base' dLen cap' → l' = #[] → v = .int .i64 (Nat.min m dLen) → s' = s → DoneAt C B σ o a s s' w v := by
      intro base' cap' hd' hl' hv hs'
      subst hv; subst hs'; subst hl'
      exact ⟨σ, w, _, _, go base' cap' w hd' (fun a' _ => rfl) (fun _ => rfl), .inl rfl, h, Ext.refl _ _ _, .flat rfl⟩
    cases base with
    | none =>
      simp at hs; obtain ⟨rfl, rfl⟩ := hs
      exact ⟨σ, w, _, _, go none dCap w hd.nilS (fun a' e => by cases e) (fun _ => rfl), .inl rfl, h, Ext.refl _ _ _, .flat rfl⟩
    | some p =>
      obtain ⟨e1, e2, e3⟩ := hd.slice_inv
      have shape : ∃ o' c', d' = .slice (some ⟨(σ p.block).blk, o', none⟩) dLen c' ∧ (o' = p.off ∨ dLen = 0) := by
        rcases e3 with ⟨_, e⟩ | ⟨_, _, c', _, _, e⟩ | ⟨_, e5, o', e⟩
        · exact ⟨_, _, e, .inl rfl⟩
        · exact ⟨_, _, e, .inl rfl⟩
        · exact ⟨o', 0, by rw [e, e5], .inr e5⟩
      obtain ⟨o', c', hd', hor⟩ := shape
      cases l with
      | nil =>
        simp at hs; obtain ⟨rfl, rfl⟩ := hs
        have : l' = #[] := by apply Array.ext'; cases hq : l'.toList with
          | nil => rfl
          | cons _ _ => rw [hq] at hl1; exact hl1.elim
        exact same _ _ hd' this rfl rfl
      | cons x l =>
        simp only [] at hs
        replace hs := bnd_ok.1 hs; obtain ⟨s1, hst, hs⟩ := hs
        simp at hs; obtain ⟨rfl, rfl⟩ := hs
        have ho' : o' = p.off := by
          rcases hor with e | e
          · exact e
          · exfalso
            subst e
            have hz : Nat.min m 0 = 0 := by simp
            rw [hz] at hlc
            cases src with
            | slice q n c =>
              cases q with
              | none => simp [firstA] at hlc
              | some q => simp only [firstA] at hlc; cases hq : q.spot <;> simp [hq] at hlc
            | string b => simp [firstA, ofBytes] at hlc
            | _ => simp [firstA] at hlc
        subst ho'
        obtain ⟨_, _, w', k1, k2, k3, _⟩ := storeCells_ok h hl1 hst
        exact ⟨σ, w', _, _, go _ _ w' hd' (fun a' e => by injection e with e; subst e; exact k1) (fun e => by cases e), .inl rfl, k2, k3, .flat rfl⟩
  · simp at hs
theorem do_delete (h : HRel C B σ s w) {c : Call} (ho : o.op = .call c) (hc : c.callee = .builtin .delete) {args : List Value} (ha : LRel σ (· < s.nx) args (c.args.map a.eval).toList) (hs : builtinA C s .delete c.argTypes args = .ok (v, s')) : DoneAt C B σ o a s s' w v := by
  obtain ⟨cs, hrun⟩ := run_builtin (P := C.P) (a := a) ho hc
  simp only [builtinA] at hs
  replace hs := bnd_ok.1 hs; obtain ⟨ty, hty, hs⟩ := hs
  replace hs := bnd_ok.1 hs; obtain ⟨⟨kt, et⟩, hmt, hs⟩ := hs
  have hty := some_ok.1 hty
  have h1 := mapTypes_ok hmt
  split at hs
  · rename_i r k
    obtain ⟨m', k', hl, hm, hk⟩ := ha.flatten2
    have hargs : c.args.map a.eval = #[m', k'] := by apply Array.ext'; rw [hl]
    replace hs := bnd_ok.1 hs; obtain ⟨u, h2, hs⟩ := hs
    replace hs := bnd_ok.1 hs; obtain ⟨⟨es, cl⟩, hr, hs⟩ := hs
    replace hs := bnd_ok.1 hs; obtain ⟨i, hi, hs⟩ := hs
    have h2 := keyKind_ok h2
    obtain ⟨d, hd, hkd, hf⟩ := kinds h2
    have ek := hk.of_flat hf
    obtain ⟨hlive, hlt, _, es', h3, h4⟩ := rdMap_ok h hr
    have hget : (getObj (σ r).blk).run C.P w = .ok (.map es' cl) w := by simp [getObj, Sem.run, h3]
    have hlt' := (Array.getElem?_eq_some_iff.1 h3).1
    have hset : ∀ o', (setObj (σ r).blk o').run C.P w = .ok () (w.putObj (σ r).blk o') := fun o' => by simp [setObj, Sem.run, h3, World.putObj]
    rcases findK_ok hkd h4 hi with ⟨rfl, h5⟩ | ⟨j, e1, e2, rfl, h5, h6, h7, h9, h8⟩
    · simp at hs; obtain ⟨rfl, rfl⟩ := hs
      have e0 : w.putObj (σ r).blk (.map es' cl) = w := by
        unfold World.putObj
        have : w.heap.setIfInBounds (σ r).blk (.map es' cl) = w.heap := by
          apply Array.ext_getElem?
          intro i
          by_cases e : i = (σ r).blk
          · subst e; rw [Array.getElem?_setIfInBounds_self_of_lt hlt', h3]
          · rw [Array.getElem?_setIfInBounds_ne (Ne.symm e)]
        rw [this]
      refine tup_done (σ' := σ) (w' := w) ?_ h (Ext.refl _ _ _)
      rw [hrun w, hargs, hm.map_inv.2, ek]
      simp [builtin, Builtin.delete_, hty, run_und ok h1, hget, run_checkKey ok h2, run_findK ok hd h5, hset, e0]
    · simp only [Nat.zero_add] at hs h8
      replace hs := bnd_ok.1 hs; obtain ⟨s1, hput, hs⟩ := hs
      simp at hs; obtain ⟨rfl, rfl⟩ := hs
      have er : ∀ {l l' : List MapEntry} {i : Nat}, MRel σ (· < s.nx) l l' → MRel σ (· < s.nx) (l.eraseIdx i) (l'.eraseIdx i) := by
        intro l
        induction l with
        | nil => intro l' i hm; cases l' with
          | nil => simp [MRel]
          | cons _ _ => exact hm.elim
        | cons y l ih => intro l' i hm; cases l' with
          | nil => exact hm.elim
          | cons y' l' =>
            cases i with
            | zero => exact hm.2
            | succ i => exact ⟨hm.1, ih hm.2⟩
      have hj : j < es'.size := by
        have := (List.getElem?_eq_some_iff.1 h6).1; simpa using this
      obtain ⟨q1, q2, q3⟩ := h.put (w' := w.putObj (σ r).blk (.map (es'.eraseIdxIfInBounds j) cl)) hput hlive (fun k hk => World.putObj_heap_other hk) (World.putObj_size) rfl rfl rfl
        (fun _ => ⟨_, World.putObj_heap_same hlt', _, rfl, by
          have := er (i := j) h4
          rw [Array.eraseIdxIfInBounds, dif_pos hj, Array.toList_eraseIdx]; exact this⟩)
      refine tup_done ?_ q1 q2
      rw [hrun w, hargs, hm.map_inv.2, ek]
      simp [builtin, Builtin.delete_, hty, run_und ok h1, hget, run_checkKey ok h2, run_findK ok hd h8, hset]
  · simp at hs
theorem do_clear (h : HRel C B σ s w) {c : Call} (ho : o.op = .call c) (hc : c.callee = .builtin .clear) {args : List Value} (ha : LRel σ (· < s.nx) args (c.args.map a.eval).toList) (hs : builtinA C s .clear c.argTypes args = .ok (v, s')) : DoneAt C B σ o a s s' w v := by
  obtain ⟨cs, hrun⟩ := run_builtin (P := C.P) (a := a) ho hc
  simp only [builtinA] at hs
  replace hs := bnd_ok.1 hs; obtain ⟨ty, hty, hs⟩ := hs
  replace hs := bnd_ok.1 hs; obtain ⟨e, hel, hs⟩ := hs
  have hty := some_ok.1 hty
  have hr := run_und ok (sliceElem_ok hel)
  split at hs
  · rename_i n cp
    simp at hs; obtain ⟨rfl, rfl⟩ := hs
    obtain ⟨x', hl, hx⟩ := ha.flatten1
    have hargs : c.args.map a.eval = #[x'] := by apply Array.ext'; rw [hl]
    refine tup_done (σ' := σ) (w' := w) ?_ h (Ext.refl _ _ _)
    rw [hrun w, hargs, hx.nilS]
    simp [builtin, Builtin.clear_, hty, hr]
  · rename_i p n cp
    obtain ⟨x', hl, hx⟩ := ha.flatten1
    have hargs : c.args.map a.eval = #[x'] := by apply Array.ext'; rw [hl]
    obtain ⟨e1, e2, e3⟩ := hx.slice_inv
    cases n with
    | zero =>
      simp at hs; obtain ⟨rfl, rfl⟩ := hs
      refine tup_done (σ' := σ) (w' := w) ?_ h (Ext.refl _ _ _)
      rw [hrun w, hargs]
      rcases e3 with ⟨_, e⟩ | ⟨_, _, c', _, _, e⟩ | ⟨_, e5, o', e⟩ <;> rw [e] <;> simp [builtin, Builtin.clear_, hty, hr]
    | succ n =>
      simp only [] at hs
      replace hs := bnd_ok.1 hs; obtain ⟨z, hz, hs⟩ := hs
      replace hs := bnd_ok.1 hs; obtain ⟨s1, hst, hs⟩ := hs
      simp at hs; obtain ⟨rfl, rfl⟩ := hs
      obtain ⟨_, _, _, hf⟩ := zeroOf_ok ok hz
      have hrel : LRel σ (· < s.nx) (repL (cellsL z) (n + 1)) (Builtin.zeroCells z.cells (n + 1)).toList := by
        rw [zeroCells_eq]; exact rep_rel (zero_cells hf) (n + 1)
      obtain ⟨_, _, w', k1, k2, k3, _⟩ := storeCells_ok h hrel hst
      refine tup_done ?_ k2 k3
      rw [hrun w, hargs]
      rcases e3 with ⟨_, e⟩ | ⟨_, _, c', _, _, e⟩ | ⟨_, e5, o', e⟩
      · rw [e]; simp [builtin, Builtin.clear_, hty, hr, run_zero ok hz, k1]
      · rw [e]; simp [builtin, Builtin.clear_, hty, hr, run_zero ok hz, k1]
      · omega
  · simp at hs
include he
omit ok in
theorem do_next (h : HRel C B σ s w) {it : Operand} {str : Bool} (ho : o.op = .next it str) (hs : simpleA C s ρ (.next it str) = .ok (v, s')) : DoneAt C B σ o a s s' w v := by
  cases str with
  | false => simp [simpleA] at hs
  | true =>
    simp only [simpleA] at hs
    replace hs := bnd_ok.1 hs; obtain ⟨u, hu, hs⟩ := hs
    have hx := he it _ hu
    have hop : (execOp a.eval o) = (do pure (Next.value (← Instr.next (a.eval it) true o.type))) := by simp only [execOp, ho]
    split at hs
    · rename_i r
      obtain ⟨_, e2, e3⟩ := hx.ptr_inv
      simp only [] at e2 e3
      split at hs
      · rename_i b pos hg
        obtain ⟨h1, o', h2, h3⟩ := h.obj r _ hg rfl
        have h3 : o' = .stringIter b pos := h3
        subst h3
        have hget : (getObj (σ r).blk).run C.P w = .ok (.stringIter b pos) w := by simp [getObj, Sem.run, h2]
        have hlt' := (Array.getElem?_eq_some_iff.1 h2).1
        have hset : ∀ o', (setObj (σ r).blk o').run C.P w = .ok () (w.putObj (σ r).blk o') := fun o' => by simp [setObj, Sem.run, h2, World.putObj]
        cases hb : Nat.blt pos b.size with
        | false =>
          rw [hb] at hs
          simp at hs; obtain ⟨rfl, rfl⟩ := hs
          rw [blt_nat] at hb
          simp only [decide_eq_false_iff_not] at hb
          refine ⟨σ, w, _, .tuple #[.bool false], ?_, .inl rfl, h, Ext.refl _ _ _, LRel.tup (l := [.bool false]) (r := [.bool false]) ⟨.flat rfl, trivial⟩⟩
          rw [hop, e3]
          simp [Instr.next, hget, hb]
        | true =>
          rw [hb] at hs
          simp only [] at hs
          replace hs := bnd_ok.1 hs; obtain ⟨s1, hput, hs⟩ := hs
          simp at hs; obtain ⟨rfl, rfl⟩ := hs
          rw [blt_nat] at hb
          simp only [decide_eq_true_eq] at hb
          obtain ⟨q1, q2, q3⟩ := h.put (w' := w.putObj (σ r).blk (.stringIter b (pos + (Utf8.decode b pos).2))) hput ⟨_, hg, rfl, rfl⟩ (fun k hk => World.putObj_heap_other hk) (World.putObj_size) rfl rfl rfl
            (fun _ => ⟨_, World.putObj_heap_same hlt', rfl⟩)
          refine ⟨σ, _, _, .tuple #[.bool true, .int .i64 pos, .int .i32 (Utf8.decode b pos).1], ?_, .inl rfl, q1, q2,
            LRel.tup (l := [.bool true, .int .i64 pos, .int .i32 (Utf8.decode b pos).1]) (r := [.bool true, .int .i64 pos, .int .i32 (Utf8.decode b pos).1]) ⟨.flat rfl, .flat rfl, .flat rfl, trivial⟩⟩
          rw [hop, e3]
          simp [Instr.next, hget, hb, hset, goInt]
      · simp at hs
    · simp at hs
theorem do_slices (h : HRel C B σ s w) {src dst e e' : TypeId} {x : Operand} (ho : o.op = .convert src dst x) (hdst : und C dst = .ok (.slice e)) (hsrc : und C src = .ok (.slice e')) (hs : simpleA C s ρ (.convert src dst x) = .ok (v, s')) : DoneAt C B σ o a s s' w v := by
  simp only [simpleA] at hs
  replace hs := bnd_ok.1 hs; obtain ⟨u, hu, hs⟩ := hs
  have hx := he x _ hu
  have hop : (execOp a.eval o) = (do pure (Next.value (← convert src dst (a.eval x)))) := by simp only [execOp, ho]
  unfold convA at hs
  rw [hsrc, hdst] at hs
  simp only [M.bnd] at hs
  cases hu8 : isU8 C e with
  | error er => rw [hu8] at hs; simp at hs
  | ok b8 =>
    rw [hu8] at hs
    cases b8 with
    | false => simp at hs
    | true =>
      simp only [] at hs
      cases u with
      | string b => simp at hs
      | slice p l c =>
        cases p with
        | none => simp at hs
        | some p =>
          simp only [] at hs
          cases hse : sliceElem C src with
          | error er => rw [hse] at hs; simp at hs
          | ok e2 =>
            rw [hse] at hs
            simp only [] at hs
            cases hb : Nat.beq src dst with
            | false => rw [hb] at hs; simp at hs
            | true =>
              rw [hb] at hs
              simp only [] at hs
              cases hrd : rd s p.block with
              | error er => rw [hrd] at hs; simp at hs
              | ok blk =>
                rw [hrd] at hs
                simp only [] at hs
                cases hwe : blk.wr && Nat.beq blk.elem e with
                | false => rw [hwe] at hs; simp at hs
                | true =>
                rw [hwe] at hs
                simp at hs; obtain ⟨rfl, rfl⟩ := hs
                simp only [Bool.and_eq_true] at hwe
                have hwr : blk.wr = true := hwe.1
                have hue : C.P.underlying blk.elem = some (.int .u8) := by rw [Nat.eq_of_beq_eq_true hwe.2]; exact und_ok ok (isU8_ok hu8)
                have hsd := Nat.eq_of_beq_eq_true hb
                obtain ⟨hlive, hg, hlt, hB, cc, fz, h2, h3, h4, h5, h6⟩ := h.rd hrd
                obtain ⟨e1, e3, e4⟩ := hx.slice_inv
                -- the mark behind the block's last cell
                obtain ⟨fz', hfz⟩ : ∃ fz' : Nat × Nat, fz' = (if fz.1 == fz.2 then (cc.size, cc.size + 1) else (min fz.1 cc.size, max fz.2 (cc.size + 1))) := ⟨_, rfl⟩
                have hfr : ∀ (w2 : World), w2 = w.freeze ⟨(σ p.block).blk, cc.size, none⟩ 1 → w2.heap[(σ p.block).blk]? = some (.cells cc blk.elem fz') ∧ (∀ k, k ≠ (σ p.block).blk → w2.heap[k]? = w.heap[k]?) ∧ w2.heap.size = w.heap.size ∧ w2.os = w.os ∧ w2.tape = w.tape ∧ w2.output = w.output := by
                  intro w2 e
                  subst e
                  refine ⟨?_, fun k hk => ?_, ?_, rfl, rfl, rfl⟩
                  · obtain ⟨lo, hi⟩ := fz
                    simp only [World.freeze, Nat.one_ne_zero, if_false]
                    rw [Array.getElem?_modify, if_pos rfl, h2, hfz]
                    rfl
                  · simp only [World.freeze, Nat.one_ne_zero, if_false]
                    rw [Array.getElem?_modify, if_neg (Ne.symm hk)]
                  · simp [World.freeze]
                obtain ⟨k1, k2, k3, k4, k5, k6⟩ := hfr _ rfl
                -- memory of ours is the same
                have hsame : HRel C B σ s (w.freeze ⟨(σ p.block).blk, cc.size, none⟩ 1) := by
                  refine ⟨by rw [k3]; exact h.big, h.lt, fun i o hi hd => ?_, h.inj, h.glob⟩
                  obtain ⟨g1, o', g2, g3⟩ := h.obj i o hi hd
                  refine ⟨g1, ?_⟩
                  by_cases e : i = p.block
                  · subst e
                    rw [hg] at hi; injection hi with hi; subst hi
                    refine ⟨_, k1, cc, fz', rfl, h3, h4, fun hw => ?_, h6⟩
                    rw [hfz]
                    rcases h5 hw with e | e
                    · rw [if_pos (by simp [e])]; exact .inr ⟨Nat.le_refl _, hue⟩
                    · have e := e.1
                      split
                      · exact .inr ⟨Nat.le_refl _, hue⟩
                      · right; exact ⟨by show cc.size ≤ min fz.1 cc.size; omega, hue⟩
                  · exact ⟨o', by rw [k2 _ (fun eq => e (h.inj i p.block ⟨o, hi, hd⟩ hlive eq))]; exact g2, g3⟩
                have hext : Ext σ σ s s w (w.freeze ⟨(σ p.block).blk, cc.size, none⟩ 1) :=
                  ⟨fun _ _ => rfl, Nat.le_refl _, by rw [k3]; exact Nat.le_refl _, fun k _ hk => k2 k (fun e => hk _ ⟨_, hg, rfl, by rw [hwr]; rfl⟩ e.symm), fun i hi => .inl hi, fun i hi => .inl hi, k4, k5, k6⟩
                refine ⟨σ, _, _, a.eval x, ?_, .inl rfl, hsame, hext, hx⟩
                have hshape : (shape (σ p.block).blk).run C.P w = .ok (some (blk.elem, cc.size)) w := by
                  simp [shape, Sem.run, World.shape?, h2]
                have hmark : ∀ o', (markStringish ⟨(σ p.block).blk, o', none⟩).run C.P w = .ok () (w.freeze ⟨(σ p.block).blk, cc.size, none⟩ 1) := fun o' => by
                  simp only [markStringish, Sem.run_bind, hshape, Result.andThen_ok]
                  simp [freeze, Sem.run]
                have hconv : ∀ o' l' c', (convert src dst (.slice (some ⟨(σ p.block).blk, o', none⟩) l' c')).run C.P w = .ok (.slice (some ⟨(σ p.block).blk, o', none⟩) l' c') (w.freeze ⟨(σ p.block).blk, cc.size, none⟩ 1) := fun o' l' c' => by
                  unfold convert
                  simp only [Sem.run_bind, run_und ok hsrc, run_und ok hdst, Result.andThen_ok, run_und ok (isU8_ok hu8), hsd, beq_self_eq_true, hmark, Sem.run_pure]
                rw [hop]
                rcases e4 with ⟨_, e⟩ | ⟨_, _, c', _, _, e⟩ | ⟨_, _, o', e⟩ <;> rw [e] <;> simp [hconv]
      | _ => simp at hs
end
end Go.Proofs.YtoddlefhlicfiaaGreatDoorR.X

/- The executor's append is the model's: how the model's runs, where it fits and where it does not. -/
set_option linter.unusedSimpArgs false
set_option linter.unusedVariables false
namespace Go.Proofs.YtoddlefhlicfiaaGreatDoorR.X
open Go

/-- what is appended, as the model reads it -/
def News (P : Program) (w : World) (xd : TypeDesc) (z : Value) (size n : Nat) (x' : Value) (new' : Array Value) : Prop :=
  (∃ k, xd = .int k ∧ x' = .int .i64 n ∧ n ≤ 65536 ∧ new' = (repL z.cells.toList n).toArray ∧ new'.size = n * size) ∨
  ((∀ k, xd ≠ .int k) ∧ (Builtin.lenOf x').run P w = .ok n w ∧ (Builtin.firstCells size n x').run P w = .ok new' w)

section
variable {P : Program} {w w' : World} {ts : Array TypeId} {ty st xt elem : TypeId} {xd : TypeDesc} {i : TypeInfo} {z : Value} {size n sLen cap' : Nat} {base' : Option Addr} {x' : Value} {new' old' : Array Value}
set_option maxHeartbeats 1000000 in
theorem append_fits (h0 : ts[0]? = some st) (h1 : P.underlying st = some (.slice elem)) (h2 : ts[1]? = some xt) (h3 : P.underlying xt = some xd) (h4 : P.info? elem = some i) (h5 : i.size = size) (h6 : i.zero = some z) (h7 : i.bytes ≤ 65536)
    (hx : News P w xd z size n x' new') (hfit : sLen + n ≤ cap') (hst : match base' with | none => w' = w | some a' => (storeCells (a'.add (sLen * size)) new'.toList).run P w = .ok () w') :
    (Builtin.append_ ts ty #[.slice base' sLen cap', x']).run P w = .ok (.slice base' (sLen + n) cap') w' := by
  have hu1 : ∀ w, (underlying st).run P w = .ok (.slice elem) w := run_underlying h1
  have hu3 : ∀ w, (underlying xt).run P w = .ok xd w := run_underlying h3
  have hi0 : ∀ w, (typeInfo elem).run P w = .ok i w := fun w => by simp [typeInfo, h4]
  have hsz0 : ∀ w, (sizeOf elem).run P w = .ok size w := fun w => by simp [sizeOf, hi0, h5]
  have hz0 : ∀ w, (zeroValue elem).run P w = .ok z w := fun w => by simp [zeroValue, hi0, h6]
  rcases hx with ⟨k, rfl, rfl, hn, hnew, hsz⟩ | ⟨hk, hn, hnew⟩
  · have w1 : IntKind.i64.wrap (n : Int) = (n : Int) := by rw [IntKind.wrap_i64]; omega
    have hb : n * i.bytes ≤ 4294967296 := Nat.le_trans (Nat.mul_le_mul hn h7) (by decide)
    have hbn : ¬ (281474976710656 < (n : Int) * (i.bytes : Int)) := by rw [← Int.natCast_mul]; omega
    have hn0 : ¬ ((n : Int) < 0) := by omega
    have happ : (n * size = 0 ∧ new' = #[]) ∨ (n * size ≠ 0 ∧ new' = Builtin.zeroCells z.cells n) := by
      by_cases hz : n * size = 0
      · exact .inl ⟨hz, Array.size_eq_zero_iff.1 (by omega)⟩
      · exact .inr ⟨hz, by rw [zeroCells_eq, hnew]⟩
    cases base' with
    | none =>
      simp only [] at hst; subst hst
      rcases happ with ⟨hz, rfl⟩ | ⟨hz, rfl⟩ <;> simp [Builtin.append_, h0, h2, hu1, hu3, hsz0, hi0, hz0, asInt, asIntOf, w1, hn0, hbn, hz, hfit]
    | some a' =>
      simp only [] at hst
      rcases happ with ⟨hz, rfl⟩ | ⟨hz, rfl⟩ <;> (try simp at hst) <;> simp [Builtin.append_, h0, h2, hu1, hu3, hsz0, hi0, hz0, asInt, asIntOf, w1, hn0, hbn, hz, hfit, hst]
  · have hz : (match xd with | .int _ => true | _ => false) = false := by cases xd <;> first | rfl | exact absurd rfl (hk _)
    cases base' with
    | none =>
      simp only [] at hst; subst hst
      cases xd <;> first | exact absurd rfl (hk _) | simp [Builtin.append_, h0, h2, hu1, hu3, hsz0, hi0, hz0, hn, hnew, hfit]
    | some a' =>
      simp only [] at hst
      cases xd <;> first | exact absurd rfl (hk _) | simp [Builtin.append_, h0, h2, hu1, hu3, hsz0, hi0, hz0, hn, hnew, hfit, hst]
set_option maxHeartbeats 1000000 in
theorem append_grows (h0 : ts[0]? = some st) (h1 : P.underlying st = some (.slice elem)) (h2 : ts[1]? = some xt) (h3 : P.underlying xt = some xd) (h4 : P.info? elem = some i) (h5 : i.size = size) (h6 : i.zero = some z) (h7 : i.bytes ≤ 65536)
    (hx : News P w.drew xd z size n x' new') (hl : (∀ k, xd ≠ .int k) → (Builtin.lenOf x').run P w = .ok n w) (hfit : cap' < sLen + n) (hsmall : sLen + n < 1048576)
    (hold : (Builtin.firstCells size sLen (.slice base' sLen cap')).run P w.drew = .ok old' w.drew) :
    (Builtin.append_ ts ty #[.slice base' sLen cap', x']).run P w = .ok (.slice (some ⟨w.heap.size, 0, none⟩) (sLen + n) (grownCap w (sLen + n) cap' elem)) (w.drew.alloc (.cells (old' ++ new' ++ Builtin.zeroCells z.cells (grownCap w (sLen + n) cap' elem - (sLen + n))) elem)) := by
  have hu1 : ∀ w, (underlying st).run P w = .ok (.slice elem) w := run_underlying h1
  have hu3 : ∀ w, (underlying xt).run P w = .ok xd w := run_underlying h3
  have hi0 : ∀ w, (typeInfo elem).run P w = .ok i w := fun w => by simp [typeInfo, h4]
  have hsz0 : ∀ w, (sizeOf elem).run P w = .ok size w := fun w => by simp [sizeOf, hi0, h5]
  have hz0 : ∀ w, (zeroValue elem).run P w = .ok z w := fun w => by simp [zeroValue, hi0, h6]
  have hnf : ¬ sLen + n ≤ cap' := by omega
  have hmax' : ¬ (9223372036854775807 < (sLen : Int) + (n : Int)) := by omega
  have hnext : Builtin.nextslicecap (sLen + n) cap' * i.bytes ≤ 281474976710656 := by
    have hg : ∀ r c, c ≤ 67108864 → Builtin.growBy (sLen + n) r c ≤ (4 ^ r) * (c + 768) := by
      intro r
      induction r with
      | zero => intro c _; simp [Builtin.growBy]
      | succ r ih =>
        intro c hc
        simp only [Builtin.growBy]
        split
        · have : 0 < 4 ^ (r + 1) := Nat.pow_pos (by decide)
          have := Nat.le_mul_of_pos_left (c + 768) this
          omega
        · have h8 := ih (c + (c + 768) / 4) (by omega)
          have : c + (c + 768) / 4 + 768 ≤ 4 * (c + 768) := by omega
          calc _ ≤ 4 ^ r * (c + (c + 768) / 4 + 768) := h8
            _ ≤ 4 ^ r * (4 * (c + 768)) := Nat.mul_le_mul_left _ this
            _ = 4 ^ (r + 1) * (c + 768) := by rw [Nat.pow_succ, Nat.mul_assoc]
    have hn : Builtin.nextslicecap (sLen + n) cap' ≤ 268632064 := by
      unfold Builtin.nextslicecap
      split
      · omega
      · split
        · omega
        · have h8 := hg 4 cap' (by omega)
          have e4 : (4 : Nat) ^ 4 = 256 := by decide
          rw [e4] at h8
          refine Nat.le_trans h8 (Nat.le_trans (Nat.mul_le_mul_left 256 (show cap' + 768 ≤ 1049343 by omega)) (by decide))
    have h9 := Nat.mul_le_mul_left (Builtin.nextslicecap (sLen + n) cap') h7
    generalize Builtin.nextslicecap (sLen + n) cap' = q at hn h9
    omega
  have hnext' : ¬ (281474976710656 < Builtin.nextslicecap (sLen + n) cap' * i.bytes) := by omega
  have hcut : Question.cut (Question.appendCap (sLen + n) cap' elem) (w.tape w.drawn (Question.appendCap (sLen + n) cap' elem)) = grownCap w (sLen + n) cap' elem := rfl
  have hforced : Question.forced (Question.appendCap (sLen + n) cap' elem) = false := rfl
  rcases hx with ⟨k, rfl, rfl, hn, hnew, hsz⟩ | ⟨hk, hn, hnew⟩
  · have w1 : IntKind.i64.wrap (n : Int) = (n : Int) := by rw [IntKind.wrap_i64]; omega
    have hb : n * i.bytes ≤ 4294967296 := Nat.le_trans (Nat.mul_le_mul hn h7) (by decide)
    have hbn : ¬ (281474976710656 < (n : Int) * (i.bytes : Int)) := by rw [← Int.natCast_mul]; omega
    have hn0 : ¬ ((n : Int) < 0) := by omega
    have happ : (n * size = 0 ∧ new' = #[]) ∨ (n * size ≠ 0 ∧ new' = Builtin.zeroCells z.cells n) := by
      by_cases hz : n * size = 0
      · exact .inl ⟨hz, Array.size_eq_zero_iff.1 (by omega)⟩
      · exact .inr ⟨hz, by rw [zeroCells_eq, hnew]⟩
    rcases happ with ⟨hz, rfl⟩ | ⟨hz, rfl⟩ <;> simp [Builtin.append_, h0, h2, hu1, hu3, hsz0, hi0, hz0, asInt, asIntOf, w1, hn0, hbn, hnf, hmax', hnext', hforced, hcut, hold, hz, newRow]
  · have hn := hl hk
    cases xd <;> first | exact absurd rfl (hk _) | simp [Builtin.append_, h0, h2, hu1, hu3, hsz0, hi0, hz0, hn, hnf, hmax', hnext', hforced, hcut, hold, hnew, newRow]
end
end Go.Proofs.YtoddlefhlicfiaaGreatDoorR.X

/- The executor's append is the model's. -/
set_option linter.unusedSimpArgs false
set_option linter.unusedVariables false
namespace Go.Proofs.YtoddlefhlicfiaaGreatDoorR.X
open Go

/-- A block of the model's that goes on under another number. -/
theorem HRel.move {C : Cx} {B : Nat} {σ : Sg} {s s1 s2 : St} {w w' : World} {o : AO} {r b sz : Nat} (h : HRel C B σ s w) (hn : newO s o = .ok (r, s1)) (hp : putO s1 b .dead = .ok s2) (hd : o.isDead = false) (hlvW : LiveW s b)
    (hother : ∀ k, k ≠ (σ b).blk → w'.heap[k]? = w.heap[k]?) (hsz : w'.heap.size = w.heap.size) (hos : w'.os = w.os) (ht : w'.tape = w.tape) (hou : w'.output = w.output)
    (ho : ∃ o', w'.heap[(σ b).blk]? = some o' ∧ ORel C σ (· < s.nx) ⟨(σ b).blk, sz⟩ o o') :
    s2.nx = s.nx + 1 ∧ HRel C B (more σ s.nx ⟨(σ b).blk, sz⟩) s2 w' ∧ Ext σ (more σ s.nx ⟨(σ b).blk, sz⟩) s s2 w w' := by
  have hlv := hlvW.live
  obtain ⟨h1, hs, h2⟩ := bnd_ok.1 hn
  injection h2 with h2
  injection h2 with hr h2
  subst h2; subst hr
  obtain ⟨g1, g2⟩ := setT_ok hs
  obtain ⟨h3, hs2, h4⟩ := bnd_ok.1 hp
  injection h4 with h4
  subst h4
  obtain ⟨_, g3, g4⟩ := updT_ok hs2
  simp only [] at g3 g4
  have hb : b < s.nx := h.live_lt hlv
  have hmono : ∀ i, i < s.nx → i < s.nx + 1 ∧ more σ s.nx ⟨(σ b).blk, sz⟩ i = σ i := fun i hi => ⟨by omega, more_other σ _ (by omega)⟩
  have hget : ∀ i x, h3.get i = some x → (i = s.nx ∧ x = o) ∨ (i = b ∧ x = .dead) ∨ (i ≠ s.nx ∧ i ≠ b ∧ s.h.get i = some x) := by
    intro i x hx
    by_cases e : i = b
    · subst e; rw [g3] at hx; injection hx with hx; exact .inr (.inl ⟨rfl, hx.symm⟩)
    · rw [g4 i e] at hx
      by_cases e' : i = s.nx
      · subst e'; rw [g1] at hx; injection hx with hx; exact .inl ⟨rfl, hx.symm⟩
      · exact .inr (.inr ⟨e', e, (g2 i e').symm.trans hx⟩)
  have hlive : ∀ i, Live { h := h3, nx := s.nx + 1 } i → i = s.nx ∨ (i ≠ s.nx ∧ i ≠ b ∧ Live s i) := by
    rintro i ⟨x, hx, hxd⟩
    rcases hget i x hx with ⟨e, _⟩ | ⟨_, e⟩ | ⟨e, e', hx'⟩
    · exact .inl e
    · subst e; cases hxd
    · exact .inr ⟨e, e', x, hx', hxd⟩
  have hliveW : ∀ i, LiveW { h := h3, nx := s.nx + 1 } i → i = s.nx ∨ (i ≠ s.nx ∧ i ≠ b ∧ LiveW s i) := by
    rintro i ⟨x, hx, hxd, hxf⟩
    rcases hget i x hx with ⟨e, _⟩ | ⟨_, e⟩ | ⟨e, e', hx'⟩
    · exact .inl e
    · subst e; cases hxd
    · exact .inr ⟨e, e', x, hx', hxd, hxf⟩
  have hBb : B ≤ (σ b).blk := by
    obtain ⟨x, hx, hxd⟩ := hlv
    exact (h.obj b x hx hxd).1
  refine ⟨rfl, ⟨?_, ?_, ?_, ?_, fun g hg => ?_⟩, ⟨fun i hi => more_other σ _ (by omega), Nat.le_succ _, by rw [hsz]; exact Nat.le_refl _, fun k _ hk => hother k (fun e => hk b hlvW e.symm), ?_, ?_, hos, ht, hou⟩⟩
  · rw [hsz]; exact h.big
  · intro i x hx
    rcases hget i x hx with ⟨e, _⟩ | ⟨e, _⟩ | ⟨_, _, hx'⟩
    · show i < s.nx + 1; omega
    · show i < s.nx + 1; omega
    · have := h.lt i x hx'; show i < s.nx + 1; omega
  · intro i x hx hxd
    rcases hget i x hx with ⟨e, e'⟩ | ⟨_, e⟩ | ⟨e, e', hx'⟩
    · subst e; subst e'
      rw [more_same]
      obtain ⟨o', k1, k2⟩ := ho
      exact ⟨hBb, o', k1, k2.mono hmono⟩
    · subst e; cases hxd
    · rw [more_other σ _ e]
      obtain ⟨k1, o', k2, k3⟩ := h.obj i x hx' hxd
      refine ⟨k1, o', ?_, k3.mono hmono⟩
      rw [hother _ (fun eq => e' (h.inj i b ⟨x, hx', hxd⟩ hlv eq))]; exact k2
  · intro i j hi hj he
    rcases hlive i hi with e | ⟨e, e', hi'⟩ <;> rcases hlive j hj with f | ⟨f, f', hj'⟩
    · omega
    · subst e
      rw [more_same, more_other σ _ f] at he
      exact absurd (h.inj j b hj' hlv he.symm) f'
    · subst f
      rw [more_same, more_other σ _ e] at he
      exact absurd (h.inj i b hi' hlv he) e'
    · rw [more_other σ _ e, more_other σ _ f] at he
      exact h.inj i j hi' hj' he
  · obtain ⟨q1, q2⟩ := h.glob g hg
    exact ⟨by show g < s.nx + 1; omega, by rw [more_other σ _ (by omega)]; exact q2⟩
  · intro i hi
    rcases hlive i hi with e | ⟨_, _, hi'⟩
    · subst e; exact .inr (.inr ⟨b, hlv, by rw [more_same]⟩)
    · exact .inl hi'
  · intro i hi
    rcases hliveW i hi with e | ⟨_, _, hi'⟩
    · subst e; exact .inr (.inr ⟨b, hlvW, by rw [more_same]⟩)
    · exact .inl hi'

section
variable {C : Cx} (ok : CxOk C) {B : Nat} {σ : Sg} {D : Nat → Prop} {ρ : Operand → M Value} {a : Act} {o : Oper} {s s' : St} {v : Value} {w : World}
theorem news_ok (h : HRel C B σ s w) {xd : TypeDesc} {z x x' : Value} {size n : Nat} {new : List Value} (hz : flatZ z = true) (hzs : (cellsL z).length = size) (hx : VRel σ (· < s.nx) x x') (hn : newsA s xd z size x = .ok (n, new)) :
    ∃ new' : Array Value, LRel σ (· < s.nx) new new'.toList ∧ News C.P w xd z size n x' new' ∧ ((∀ k, xd ≠ .int k) → ∀ w', (Builtin.lenOf x').run C.P w' = .ok n w') := by
  unfold newsA at hn
  by_cases hk : ∃ k, xd = .int k
  · obtain ⟨k, rfl⟩ := hk
    simp only [] at hn
    split at hn
    · rename_i m
      split at hn
      · rename_i hle
        simp at hn; obtain ⟨rfl, rfl⟩ := hn
        have hle := Nat.le_of_ble_eq_true hle
        refine ⟨(repL z.cells.toList m).toArray, by rw [List.toList_toArray]; exact rep_rel (zero_cells hz) m, .inl ⟨k, rfl, by rw [hx.int]; rfl, hle, rfl, ?_⟩, fun hk => absurd rfl (hk k)⟩
        have : z.cells.size = size := by rw [← cells_size]; exact hzs
        simp [rep_len, this]
      · simp at hn
    · simp at hn
  · have hk' : ∀ k, xd ≠ .int k := fun k e => hk ⟨k, e⟩
    have hn' : M.bnd (lenA x) (fun n => M.bnd (firstA s size n x) fun l => .ok (n, l)) = .ok (n, new) := by
      cases xd <;> first | exact absurd rfl (hk' _) | exact hn
    obtain ⟨m, hm, hn'⟩ := bnd_ok.1 hn'
    obtain ⟨l, hl, hn'⟩ := bnd_ok.1 hn'
    simp at hn'; obtain ⟨rfl, rfl⟩ := hn'
    obtain ⟨new', k1, k2⟩ := first_ok (P := C.P) h hx hl (fun m' hm' => by rw [hm] at hm'; injection hm' with hm'; omega)
    exact ⟨new', k1, .inr ⟨hk', len_ok hx hm, k2⟩, fun _ w' => len_ok hx hm⟩
include ok
set_option maxHeartbeats 1000000 in
theorem do_append (h : HRel C B σ s w) {c : Call} (ho : o.op = .call c) (hc : c.callee = .builtin .append) {args : List Value} (ha : LRel σ (· < s.nx) args (c.args.map a.eval).toList) (hs : appendA C s c.argTypes args = .ok (v, s')) : DoneAt C B σ o a s s' w v := by
  obtain ⟨cs, hrun⟩ := run_builtin (P := C.P) (a := a) ho hc
  unfold appendA at hs
  split at hs
  case h_2 => simp at hs
  rename_i base sLen sCap x
  obtain ⟨d', x', hl, hd, hx⟩ := ha.flatten2
  have hargs : c.args.map a.eval = #[d', x'] := by apply Array.ext'; rw [hl]
  replace hs := bnd_ok.1 hs; obtain ⟨st, hst, hs⟩ := hs
  replace hs := bnd_ok.1 hs; obtain ⟨elem, hel, hs⟩ := hs
  replace hs := bnd_ok.1 hs; obtain ⟨size, hsize, hs⟩ := hs
  replace hs := bnd_ok.1 hs; obtain ⟨xt, hxt, hs⟩ := hs
  replace hs := bnd_ok.1 hs; obtain ⟨xd, hxd, hs⟩ := hs
  replace hs := bnd_ok.1 hs; obtain ⟨z, hz, hs⟩ := hs
  replace hs := bnd_ok.1 hs; obtain ⟨i, hi, hs⟩ := hs
  replace hs := bnd_ok.1 hs; obtain ⟨⟨n, new⟩, hnews, hs⟩ := hs
  simp only [] at hs
  have h0 := some_ok.1 hst
  have h1 := und_ok ok (sliceElem_ok hel)
  have h2 := some_ok.1 hxt
  have h3 := und_ok ok hxd
  have h4 := info_ok ok hi
  obtain ⟨i', hi', h5⟩ := szOf_ok ok hsize
  rw [h4] at hi'; injection hi' with hi'; subst hi'
  obtain ⟨i', hi', h6, hfz⟩ := zeroOf_ok ok hz
  rw [h4] at hi'; injection hi' with hi'; subst hi'
  cases hg : (Nat.blt (sLen + n) 1048576 && Nat.beq new.length (n * size) && Nat.beq (cellsL z).length size && Nat.ble i.bytes 65536) with
  | false => rw [hg] at hs; simp at hs
  | true =>
  rw [hg] at hs
  simp only [Bool.and_eq_true, beq_nat, blt_nat, decide_eq_true_eq] at hg
  obtain ⟨⟨⟨hsmall, hnl⟩, hzs⟩, h7⟩ := hg
  have h7 := Nat.le_of_ble_eq_true h7
  simp only [] at hs
  have hexec : ∀ (u : Value) (w' : World), (Builtin.append_ c.argTypes o.type #[d', x']).run C.P w = .ok u w' → (execOp a.eval o).run C.P w = .ok (.value u) w' := fun u w' e => by
    rw [hrun w, hargs]; simp [builtin, e]
  obtain ⟨new1, n1, n2, _⟩ := news_ok h hfz hzs hx hnews
  -- in place
  have fits : ∀ (base' : Option Addr) (cap' : Nat) (w' : World), d' = .slice base' sLen cap' → sLen + n ≤ cap' → (match base' with | none => w' = w | some a' => (storeCells (a'.add (sLen * size)) new1.toList).run C.P w = .ok () w') →
      (execOp a.eval o).run C.P w = .ok (.value (.slice base' (sLen + n) cap')) w' := fun base' cap' w' e hfit hst => by
    subst e; exact hexec _ _ (append_fits h0 h1 h2 h3 h4 h5 h6 h7 n2 hfit (by cases base' <;> exact hst))
  -- a new block
  have grows : ∀ (base' : Option Addr) (cap' : Nat) (old : List Value) (old' : Array Value) (r : Nat) (s1 : St), d' = .slice base' sLen cap' → cap' < sLen + n → LRel σ (· < s.nx) old old'.toList → old.length = sLen * size →
      (Builtin.firstCells size sLen (.slice base' sLen cap')).run C.P w.drew = .ok old' w.drew → newO s (.cells (old ++ new) elem true true) = .ok (r, s1) →
      ∃ sz newCap w', (execOp a.eval o).run C.P w = .ok (.value (.slice (some ⟨w.heap.size, 0, none⟩) (sLen + n) newCap)) w' ∧ s1.nx = s.nx + 1 ∧ HRel C B (more σ s.nx ⟨w.heap.size, sz⟩) s1 w' ∧ Ext σ (more σ s.nx ⟨w.heap.size, sz⟩) s s1 w w' ∧ r = s.nx ∧ sLen + n ≤ newCap ∧ newCap * size ≤ sz ∧ Live s1 s.nx := by
    intro base' cap' old old' r s1 e hfit hold holdl hrd hnew
    have hdrew : HRel C B σ s w.drew := h.heap rfl
    obtain ⟨new2, m1, m2, m3⟩ := news_ok hdrew hfz hzs hx hnews
    have hr1 := append_grows (ty := o.type) h0 h1 h2 h3 h4 h5 h6 h7 m2 (fun hk => m3 hk w) hfit hsmall hrd
    subst e
    have hcap := grownCap_ge w (sLen + n) cap' elem
    obtain ⟨rest, hrest⟩ : ∃ rest, Builtin.zeroCells z.cells (grownCap w (sLen + n) cap' elem - (sLen + n)) = rest := ⟨_, rfl⟩
    have hrs : rest.size = (grownCap w (sLen + n) cap' elem - (sLen + n)) * size := by
      rw [← hrest, zeroCells_eq]
      have : z.cells.size = size := by rw [← cells_size]; exact hzs
      simp [rep_len, this]
    have hos : old'.size = sLen * size := by have := hold.len; simp at this; omega
    have hns : new2.size = n * size := by have := m1.len; simp at this; omega
    rw [hrest] at hr1
    have hsz : (old' ++ new2 ++ rest).size = grownCap w (sLen + n) cap' elem * size := by
      simp only [Array.size_append, hos, hns, hrs]
      rw [← Nat.add_mul, ← Nat.add_mul]; congr 1; omega
    have horel : ORel C σ (· < s.nx) ⟨w.heap.size, (old' ++ new2 ++ rest).size⟩ (.cells (old ++ new) elem true true) (.cells (old' ++ new2 ++ rest) elem) := by
      refine ⟨_, (0, 0), rfl, ?_, fun e => (by cases e), fun _ => .inl rfl, rfl⟩
      rw [Array.toList_append, Array.toList_append]
      exact (hold.app m1).pre _
    obtain ⟨k1, k2, k3, k4, k5⟩ := h.new (w' := w.drew.alloc (.cells (old' ++ new2 ++ rest) elem)) (sz := (old' ++ new2 ++ rest).size) hnew rfl rfl rfl rfl rfl horel
    exact ⟨_, _, _, hexec _ _ hr1, k2, k3, k4, k1, hcap, by rw [hsz]; exact Nat.le_refl _, k5⟩
  have uslice : ∀ {sz newCap : Nat} {s2 : St}, s.nx < s2.nx → sLen + n ≤ newCap → newCap * size ≤ sz → VRel (more σ s.nx ⟨w.heap.size, sz⟩) (· < s2.nx) (.slice (some ⟨s.nx, 0, none⟩) (sLen + n) (UNK + size)) (.slice (some ⟨w.heap.size, 0, none⟩) (sLen + n) newCap) := by
    intro sz newCap s2 e1 e2 e3
    have := VRel.sliceU (σ := more σ s.nx ⟨w.heap.size, sz⟩) (D := (· < s2.nx)) (b := s.nx) (o := 0) (l := sLen + n) (c := newCap) (z := size) e1 e2 (by rw [more_same]; simpa using e3)
    rw [more_same] at this; exact this
  cases hcu : Nat.blt sCap UNK with
  | true =>
    rw [hcu] at hs
    rw [blt_nat] at hcu
    simp only [decide_eq_true_eq] at hcu
    simp only [] at hs
    cases hle : Nat.ble (sLen + n) sCap with
    | true =>
      rw [hle] at hs
      have hle := Nat.le_of_ble_eq_true hle
      simp only [] at hs
      cases base with
      | none =>
        simp at hs; obtain ⟨rfl, rfl⟩ := hs
        exact ⟨σ, w, _, _, fits none sCap w hd.nilS hle rfl, .inl rfl, h, Ext.refl _ _ _, .flat rfl⟩
      | some p =>
        obtain ⟨e1, e2, e3⟩ := hd.slice_inv
        have ep : p = ⟨p.block, p.off, none⟩ := by cases p; simp_all
        cases new with
        | nil =>
          simp at hs; obtain ⟨rfl, rfl⟩ := hs
          have hnew1 : new1.toList = [] := by cases hq : new1.toList with
            | nil => rfl
            | cons _ _ => rw [hq] at n1; exact n1.elim
          rcases e3 with ⟨_, e⟩ | ⟨z', e, _⟩ | ⟨e5, e6, o', e7⟩
          · exact ⟨σ, w, _, _, fits _ _ w e hle (by simp only [hnew1]; rfl), .inl rfl, h, Ext.refl _ _ _, by rw [ep]; exact .slice e2 hcu⟩
          · omega
          · have hc0 : sCap = 0 := by rcases e5 with e5 | ⟨z', e5⟩ <;> omega
            subst hc0; subst e6
            have hn0 : n = 0 := by omega
            subst hn0
            exact ⟨σ, w, _, _, fits _ _ w e7 (by omega) (by simp only [hnew1]; rfl), .inl rfl, h, Ext.refl _ _ _, by rw [ep]; exact .sliceE e2 (.inl rfl)⟩
        | cons y ys =>
          simp only [] at hs
          replace hs := bnd_ok.1 hs; obtain ⟨s1, hsc, hs⟩ := hs
          simp at hs; obtain ⟨rfl, rfl⟩ := hs
          have ea : addr p (sLen * size) = ⟨p.block, p.off + sLen * size, none⟩ := by simp [addr, e1]
          obtain ⟨_, _, w', k1, k2, k3, k4⟩ := storeCells_ok h n1 hsc
          rw [ea] at k1
          simp only [] at k1
          rcases e3 with ⟨_, e⟩ | ⟨z', e, _⟩ | ⟨e5, e6, o', e7⟩
          · refine ⟨σ, w', _, _, fits _ _ w' e hle (by simp only [addr_add]; exact k1), .inl rfl, k2, k3, ?_⟩
            rw [ep]; exact .slice (by show p.block < s1.nx; omega) hcu
          · omega
          · exfalso
            have hc0 : sCap = 0 := by rcases e5 with e5 | ⟨z', e5⟩ <;> omega
            have hn0 : n = 0 := by omega
            subst hn0
            simp at hnl
    | false =>
      rw [hle] at hs
      have hle : ¬ sLen + n ≤ sCap := fun e => by rw [Nat.ble_eq_true_of_le e] at hle; cases hle
      simp only [] at hs
      replace hs := bnd_ok.1 hs; obtain ⟨old, hold, hs⟩ := hs
      cases hol : Nat.beq old.length (sLen * size) with
      | false => rw [hol] at hs; simp at hs
      | true =>
        rw [hol] at hs
        have hol := Nat.eq_of_beq_eq_true hol
        simp only [] at hs
        replace hs := bnd_ok.1 hs; obtain ⟨⟨r, s1⟩, hnew, hs⟩ := hs
        simp at hs; obtain ⟨rfl, rfl⟩ := hs
        have hdrew : HRel C B σ s w.drew := h.heap rfl
        obtain ⟨old', k1, k2⟩ := first_ok (P := C.P) hdrew hd hold (fun m hm => by simp [lenA] at hm; omega)
        have shape : ∃ base' cap', d' = .slice base' sLen cap' ∧ cap' < sLen + n := by
          cases base with
          | none => exact ⟨none, sCap, hd.nilS, by omega⟩
          | some p =>
            obtain ⟨e1, e2, e3⟩ := hd.slice_inv
            rcases e3 with ⟨_, e⟩ | ⟨z', e, _⟩ | ⟨e5, e6, o', e7⟩
            · exact ⟨_, _, e, by omega⟩
            · omega
            · exact ⟨_, 0, by rw [e7, e6], by omega⟩
        obtain ⟨base', cap', e, hlt⟩ := shape
        rw [e] at k2
        obtain ⟨sz, newCap, w', q1, q2, q3, q4, q5, q6, q7, _⟩ := grows base' cap' old old' r s1 e hlt k1 hol k2 hnew
        subst q5
        exact ⟨_, w', _, _, q1, .inl rfl, q3, q4, uslice (by omega) q6 q7⟩
  | false =>
    rw [hcu] at hs
    rw [blt_nat] at hcu
    simp only [decide_eq_false_iff_not] at hcu
    simp only [] at hs
    cases base with
    | none => simp at hs
    | some p =>
      simp only [] at hs
      obtain ⟨e1, e2, e3⟩ := hd.slice_inv
      have ep : p = ⟨p.block, p.off, none⟩ := by cases p; simp_all
      cases n with
      | zero =>
        simp at hs; obtain ⟨rfl, rfl⟩ := hs
        have hnew1 : new1.toList = [] := by
          have := n1.len
          simp at hnl
          subst hnl
          cases hq : new1.toList with
          | nil => rfl
          | cons _ _ => rw [hq] at n1; exact n1.elim
        rcases e3 with ⟨e, _⟩ | ⟨z', e, c', e5, e6, e7⟩ | ⟨e5, e6, o', e7⟩
        · omega
        · refine ⟨σ, w, _, _, fits _ _ w e7 (by omega) (by simp only [hnew1]; rfl), .inl rfl, h, Ext.refl _ _ _, ?_⟩
          rw [ep, e]; exact .sliceU e2 e5 e6
        · subst e6
          refine ⟨σ, w, _, _, fits _ _ w e7 (by omega) (by simp only [hnew1]; rfl), .inl rfl, h, Ext.refl _ _ _, ?_⟩
          rw [ep]; exact .sliceE e2 e5
      | succ n =>
        simp only [] at hs
        replace hs := bnd_ok.1 hs; obtain ⟨b, hb, hs⟩ := hs
        cases hq : (b.grow && Nat.beq elem b.elem && b.wr && Nat.beq sCap (UNK + size) && Nat.beq p.off 0 && noAgg new) with
        | false => rw [hq] at hs; simp at hs
        | true =>
          rw [hq] at hs
          simp only [Bool.and_eq_true, beq_nat, decide_eq_true_eq] at hq
          obtain ⟨⟨⟨⟨⟨hgr, helem⟩, hwr⟩, hcap⟩, hoff⟩, hna⟩ := hq
          simp only [] at hs
          replace hs := bnd_ok.1 hs; obtain ⟨old, hold, hs⟩ := hs
          replace hs := bnd_ok.1 hs; obtain ⟨⟨r, s1⟩, hnew, hs⟩ := hs
          simp only [] at hs
          replace hs := bnd_ok.1 hs; obtain ⟨s2, hput, hs⟩ := hs
          simp at hs; obtain ⟨rfl, rfl⟩ := hs
          obtain ⟨hlive, hg, hlt, hB, cc, fz, c2, c3, c4, c5, c6⟩ := h.rd hb
          obtain ⟨p1, p2⟩ := c3.range hold
          simp only [List.drop_zero] at p1
          have p2 : sLen * size ≤ cc.size := by simpa using p2
          have hol : old.length = sLen * size := by have := p1.len; simp at this; omega
          have hr0 : r = s.nx := newO_r hnew
          subst hr0
          -- where a new block is laid
          have anew : ∀ (base' : Option Addr) (cap' : Nat) (old' : Array Value), d' = .slice base' sLen cap' → cap' < sLen + (n + 1) → LRel σ (· < s.nx) old old'.toList → (Builtin.firstCells size sLen (.slice base' sLen cap')).run C.P w.drew = .ok old' w.drew →
              DoneAt C B σ o a s s2 w (.slice (some ⟨s.nx, 0, none⟩) (sLen + (n + 1)) sCap) := by
            intro base' cap' old' e hlt' k1 k2
            obtain ⟨sz, newCap, w', q1, q2, q3, q4, q5, q6, q7, q8⟩ := grows base' cap' old old' s.nx s1 e hlt' k1 hol k2 hnew
            have hlb : LiveW s1 p.block := by
              obtain ⟨h1', hs1, hn2⟩ := bnd_ok.1 hnew
              injection hn2 with hn2; injection hn2 with _ hn2; subst hn2
              obtain ⟨_, g2⟩ := setT_ok hs1
              exact ⟨_, by rw [g2 _ (by omega)]; exact hg, rfl, by rw [hwr]; rfl⟩
            obtain ⟨r1, r2, r3⟩ := q3.put (w' := w') hput hlb (fun _ _ => rfl) rfl rfl rfl rfl (fun e => by cases e)
            refine ⟨_, w', _, _, q1, .inl rfl, r1, Ext.trans h q3 q4 r2, ?_⟩
            rw [hcap]; exact uslice (by omega) q6 q7
          rcases e3 with ⟨e, _⟩ | ⟨z', e, c', e5, e6, e7⟩ | ⟨e5, e6, o', e7⟩
          · omega
          · have hz' : z' = size := by omega
            subst hz'
            by_cases hfit : sLen + (n + 1) ≤ c'
            · -- in place
              have hmul : sLen * z' + (n + 1) * z' ≤ c' * z' := by rw [← Nat.add_mul]; exact Nat.mul_le_mul_right _ hfit
              have hns : new1.toList.length = (n + 1) * z' := by have := n1.len; omega
              have hroom : sLen * z' + new1.toList.length ≤ cc.size := by rw [hns]; omega
              obtain ⟨⟨cc', k1, k2⟩, k3, k4, k5, k6, k7⟩ := setCells_at (σ p.block).blk b.elem fz new1.toList (sLen * z') w cc c2 hroom
              have hst := run_storeCells_cells (P := C.P) (σ p.block).blk (sLen * z') new1.toList 0 w
                (fun j hj => by
                  simp only [World.cell?, c2, Nat.add_zero]
                  simp; omega)
                (fun j hj => by
                  simp only [World.frozen?, c2, Nat.add_zero]
                  rcases c5 hwr with e | ⟨e, _⟩
                  · simp; omega
                  · simp; omega) (noAgg_ok n1 hna)
              have hcs : cc'.size = cc.size := by
                have := congrArg List.length k2
                simp at this hroom; omega
              obtain ⟨m1, m2, m3⟩ := h.move (sz := (σ p.block).size) (w' := w.setCells (σ p.block).blk (sLen * z') new1.toList) hnew hput rfl ⟨_, hg, rfl, by rw [hwr]; rfl⟩ k3 k4 k5 k6 k7
                ⟨_, k1, cc', fz, by rw [helem], by rw [k2]; exact (p1.app n1).pre _, fun e => (by cases e), fun _ => by rw [hcs, helem]; exact c5 hwr, by rw [hcs]; exact c6⟩
              refine ⟨_, _, _, _, fits _ _ _ e7 hfit (by simp only [addr_add, hoff, Nat.zero_add]; simpa using hst), .inl rfl, m2, m3, ?_⟩
              have := VRel.sliceU (σ := more σ s.nx ⟨(σ p.block).blk, (σ p.block).size⟩) (D := (· < s2.nx)) (b := s.nx) (o := 0) (l := sLen + (n + 1)) (c := c') (z := z') (by omega) hfit (by rw [more_same]; show 0 + c' * z' ≤ (σ p.block).size; omega)
              rw [more_same] at this
              rw [hoff, e]; exact this
            · have k2 : (Builtin.firstCells z' sLen (.slice (some ⟨(σ p.block).blk, p.off, none⟩) sLen c')).run C.P w.drew = .ok (cc.toList.take (sLen * z')).toArray w.drew := by
                have := loadCells_ok (P := C.P) (w := w.drew) (o := 0) (n := sLen * z') c2 (by omega)
                simp only [Builtin.firstCells, hoff]
                simpa using this
              exact anew _ _ _ e7 (by omega) (by simpa using p1) k2
          · subst e6
            have hol0 : old = [] := by simpa using hol
            have k2 : (Builtin.firstCells size 0 (.slice (some ⟨(σ p.block).blk, o', none⟩) 0 0)).run C.P w.drew = .ok #[] w.drew := by
              simp only [Builtin.firstCells, Nat.zero_mul, loadCells_zero]
            exact anew _ _ #[] e7 (by omega) (by rw [hol0]; trivial) k2
end
end Go.Proofs.YtoddlefhlicfiaaGreatDoorR.X

/- The executor's operations that call nothing of Go's are the model's: all of them, and by class. -/
set_option linter.unusedSimpArgs false
set_option linter.unusedVariables false
namespace Go.Proofs.YtoddlefhlicfiaaGreatDoorR.X
open Go

section
variable {C : Cx} (ok : CxOk C) {B : Nat} {σ : Sg} {D : Nat → Prop} {ρ : Operand → M Value} {a : Act} {o : Oper} {s s' : St} {v : Value} {w : World}
include ok
theorem pure_slice (he : ERel σ D ρ a) {ty : TypeId} {x : Operand} {lo hi mx : Option Operand} (ho : o.op = .slice ty x lo hi mx) (h : simpleA C s ρ (.slice ty x lo hi mx) = .ok (v, s')) : s' = s ∧ ∃ v', VRel σ D v v' ∧ PureAt C.P o a v' := by
  replace h := bnd_ok.1 h; obtain ⟨p, hp, h⟩ := h
  replace h := bnd_ok.1 h; obtain ⟨l1, h1, h⟩ := h
  replace h := bnd_ok.1 h; obtain ⟨l2, h2, h⟩ := h
  replace h := bnd_ok.1 h; obtain ⟨l3, h3, h⟩ := h
  replace h := bnd_ok.1 h; obtain ⟨u, hu, h⟩ := h
  simp at h; obtain ⟨rfl, rfl⟩ := h
  obtain ⟨v', k1, k2⟩ := slice_ok ok (he x _ hp) (optA_ok he h1) (optA_ok he h2) (optA_ok he h3) hu
  refine ⟨rfl, v', k1, fun w => ?_⟩
  have hop : (execOp a.eval o) = (do pure (Next.value (← Instr.sliceAt ty (a.eval x) (lo.map a.eval) (hi.map a.eval) (mx.map a.eval)))) := by simp only [execOp, ho]
  rw [hop]; simp [k2 w]
theorem read_lookup (he : ERel σ D ρ a) (h : HRel C B σ s w) {ty : TypeId} {x ix : Operand} {b : Bool} (ho : o.op = .lookup ty x ix b) (hs : simpleA C s ρ (.lookup ty x ix b) = .ok (v, s')) : s' = s ∧ ∃ v', VRel σ (· < s.nx) v v' ∧ ReadAt C.P o a w v' := by
  replace hs := bnd_ok.1 hs; obtain ⟨p, hp, hs⟩ := hs
  replace hs := bnd_ok.1 hs; obtain ⟨i, hi, hs⟩ := hs
  replace hs := bnd_ok.1 hs; obtain ⟨u, hu, hs⟩ := hs
  simp at hs; obtain ⟨rfl, rfl⟩ := hs
  obtain ⟨v', k1, k2⟩ := lookup_ok ok h (he x _ hp) (he ix _ hi) hu
  refine ⟨rfl, v', k1, ?_⟩
  have hop : (execOp a.eval o) = (do pure (Next.value (← Instr.lookup ty (a.eval x) (a.eval ix) b))) := by simp only [execOp, ho]
  unfold ReadAt
  rw [hop]; simp [k2]
theorem read_conv (he : ERel σ D ρ a) (h : HRel C B σ s w) {src dst : TypeId} {x : Operand} {dd : TypeDesc} (hdd : und C dst = .ok dd) (hns : ∀ e, dd ≠ .slice e) (ho : o.op = .convert src dst x) (hs : simpleA C s ρ (.convert src dst x) = .ok (v, s')) : s' = s ∧ ∃ v', VRel σ (· < s.nx) v v' ∧ ReadAt C.P o a w v' := by
  replace hs := bnd_ok.1 hs; obtain ⟨p, hp, hs⟩ := hs
  have hs0 := hs
  unfold convA at hs0
  obtain ⟨ds, hds, _⟩ := bnd_ok.1 hs0
  obtain ⟨rfl, k1, k2⟩ := conv_read ok h hds hdd hns (he x _ hp) hs
  refine ⟨rfl, v, .flat k1, ?_⟩
  have hop : (execOp a.eval o) = (do pure (Next.value (← convert src dst (a.eval x)))) := by simp only [execOp, ho]
  unfold ReadAt
  rw [hop]; simp [k2]
omit ok in
theorem call_args (he : ERel σ D ρ a) {c : Call} {args : List Value} (h : mapM' ρ c.args.toList = .ok args) : LRel σ D args (c.args.map a.eval).toList := by
  have := args_ok he h
  simpa using this
theorem read_builtin (he : ERel σ D ρ a) (h : HRel C B σ s w) {c : Call} {b : Builtin} (hb : b = .len ∨ b = .cap ∨ b = .min ∨ b = .max) (ho : o.op = .call c) (hc : c.callee = .builtin b) (hs : simpleA C s ρ (.call c) = .ok (v, s')) : s' = s ∧ ∃ v', VRel σ (· < s.nx) v v' ∧ ReadAt C.P o a w v' := by
  simp only [simpleA, hc] at hs
  replace hs := bnd_ok.1 hs; obtain ⟨args, hargs, hs⟩ := hs
  obtain ⟨cs, hrun⟩ := run_builtin (P := C.P) (a := a) ho hc
  obtain ⟨rfl, k1, k2⟩ := reads_builtin ok (ty := o.type) (cs := cs) h hb (call_args he hargs) hs
  refine ⟨rfl, v, .flat k1, ?_⟩
  unfold ReadAt
  rw [hrun w]; simpa only [Array.toArray_toList] using k2
/-- All of them. -/
theorem simple_done (he : ERel σ (· < s.nx) ρ a) (h : HRel C B σ s w) (hs : simpleA C s ρ o.op = .ok (v, s')) : DoneAt C B σ o a s s' w v := by
  cases ho : o.op with
  | move x => rw [ho] at hs; exact PureAt.done h (pure_move he ho hs)
  | assign x => rw [ho] at hs; exact PureAt.done h (pure_assign he ho hs)
  | pick c x y => rw [ho] at hs; exact PureAt.done h (pure_pick he ho hs)
  | alloc e => rw [ho] at hs; exact AllocAt.done h (at_alloc ok ho hs)
  | box e x => rw [ho] at hs; exact AllocAt.done h (at_box he ho hs)
  | build t ps => rw [ho] at hs; exact PureAt.done h (pure_build ok he ho hs)
  | buildSlice t n ps => rw [ho] at hs; exact AllocAt.done h (at_buildSlice ok he ho hs)
  | load t x => rw [ho] at hs; exact ReadAt.done h (read_load ok he h ho hs)
  | store t p x => rw [ho] at hs; exact do_store ok he h ho hs
  | nilCheck x => rw [ho] at hs; exact PureAt.done h (pure_nilCheck he ho hs)
  | binOp op t x y t2 => rw [ho] at hs; exact PureAt.done h (pure_binOp ok he ho hs)
  | unOp op t x => rw [ho] at hs; exact PureAt.done h (pure_unOp he ho hs)
  | convert src dst x =>
    rw [ho] at hs
    have hs0 := hs
    simp only [simpleA] at hs0
    obtain ⟨p, hp, hs0⟩ := bnd_ok.1 hs0
    unfold convA at hs0
    obtain ⟨ds, hds, hs0⟩ := bnd_ok.1 hs0
    obtain ⟨dd, hdd, _⟩ := bnd_ok.1 hs0
    by_cases hsl : ∃ e, dd = .slice e
    · obtain ⟨e, rfl⟩ := hsl
      by_cases hss : ∃ e', ds = .slice e'
      · obtain ⟨e', rfl⟩ := hss
        exact do_slices ok he h ho hdd hds hs
      · exact AllocAt.done h (at_bytes ok he ho hdd (fun e' e => hss ⟨e', by rw [hds] at e; injection e⟩) hs)
    · exact ReadAt.done h (read_conv ok he h hdd (fun e eq => hsl ⟨e, eq⟩) ho hs)
  | makeInterface t x => rw [ho] at hs; exact PureAt.done h (pure_makeInterface ok he ho hs)
  | makeFunc fn f c => rw [ho] at hs; exact PureAt.done h (pure_makeFunc he ho hs)
  | makeMap t r => rw [ho] at hs; exact AllocAt.done h (at_makeMap ho hs)
  | makeSlice t l c => rw [ho] at hs; exact AllocAt.done h (at_makeSlice ok he ho hs)
  | slice t x lo hi mx => rw [ho] at hs; exact PureAt.done h (pure_slice ok he ho hs)
  | fieldAddr t x f => rw [ho] at hs; exact PureAt.done h (pure_fieldAddr ok he ho hs)
  | field t x f => rw [ho] at hs; exact PureAt.done h (pure_field ok he ho hs)
  | indexAddr t x i => rw [ho] at hs; exact PureAt.done h (pure_indexAddr ok he ho hs)
  | index t x i => rw [ho] at hs; exact PureAt.done h (pure_index ok he ho hs)
  | lookup t x i b => rw [ho] at hs; exact ReadAt.done h (read_lookup ok he h ho hs)
  | mapUpdate t m k x => rw [ho] at hs; exact do_mapUpdate ok he h (.inl ho) hs
  | insert t m k x => rw [ho] at hs; exact do_mapUpdate ok he h (.inr ho) hs
  | range t x => rw [ho] at hs; exact AllocAt.done h (at_range ok he ho hs)
  | next it b => rw [ho] at hs; exact do_next he h ho hs
  | typeAssert x t t2 b => rw [ho] at hs; exact PureAt.done h (pure_typeAssert ok he ho hs)
  | extract x i => rw [ho] at hs; exact PureAt.done h (pure_extract he ho hs)
  | call c =>
    rw [ho] at hs
    cases hc : c.callee with
    | builtin b =>
      by_cases hb : b = .len ∨ b = .cap ∨ b = .min ∨ b = .max
      · exact ReadAt.done h (read_builtin ok he h hb ho hc hs)
      · simp only [simpleA, hc] at hs
        replace hs := bnd_ok.1 hs; obtain ⟨args, hargs, hs⟩ := hs
        have ha := call_args he hargs
        cases b <;> first
          | (exact do_append ok h ho hc ha hs)
          | (exact do_copy ok h ho hc ha hs)
          | (exact do_delete ok h ho hc ha hs)
          | (exact do_clear ok h ho hc ha hs)
          | (simp [builtinA] at hs; done)
          | (exfalso; apply hb; simp; done)
    | value f => simp [simpleA, hc] at hs
    | invoke r n => simp [simpleA, hc] at hs
  | _ => rw [ho] at hs; simp [simpleA] at hs
end
end Go.Proofs.YtoddlefhlicfiaaGreatDoorR.X

/- The executor's calls: what is asked of a call, of code; frames, marks, results. -/
set_option linter.unusedSimpArgs false
set_option linter.unusedVariables false
namespace Go.Proofs.YtoddlefhlicfiaaGreatDoorR.X
open Go

/-- A mark among the deferred calls. -/
def markD (D : Nat) : Deferred := { target := .collected D, args := #[] }
structure FRel (σ : Sg) (s : St) (fr : Fr) (a : Act) : Prop where
  tmps : TRel σ (· < s.nx) fr.tmps a.tmps
  marks : a.defers = fr.marks.map fun d => markD (σ d).blk
  lt : ∀ d ∈ fr.marks, d < s.nx
theorem FRel.ext {σ σ' : Sg} {s s' : St} {w w' : World} {fr : Fr} {a : Act} (e : Ext σ σ' s s' w w') (h : FRel σ s fr a) : FRel σ' s' fr a :=
  ⟨e.trel h.tmps, by rw [h.marks]; exact List.map_congr_left fun d hd => by rw [e.sg d (h.lt d hd)], fun d hd => Nat.lt_of_lt_of_le (h.lt d hd) e.nx⟩
def exitOf : Ex → Exit
  | .normal => .normal
  | .exit id => .exit id
  | .ret => .ret
def FF (σ : Sg) : Option Nat → Fence
  | none => Fence.wide
  | some l => Fence.wide.inRound (σ l).blk
def WideF (F : Fence) : Prop := F = Fence.wide ∨ ∃ l, F = Fence.wide.inRound l
theorem FF.wide (σ : Sg) (rd : Option Nat) : WideF (FF σ rd) := by
  cases rd with
  | none => exact .inl rfl
  | some l => exact .inr ⟨_, rfl⟩
theorem WideF.fn {F : Fence} (h : WideF F) (f : FuncId) : F.fn f := by rcases h with rfl | ⟨l, rfl⟩ <;> trivial
theorem WideF.depth {F : Fence} (h : WideF F) {n : Nat} : F.depth.isSome = true → 1 ≤ n := by rcases h with rfl | ⟨l, rfl⟩ <;> (intro e; simp [Fence.wide, Fence.inRound] at e)
theorem callsIn_inRound {P : Program} {D n : Nat} {f : FuncId} {args : Array Value} {w : World} {R : Ending → World → Prop} : CallsIn (Fence.wide.inRound D) n P f args w R ↔ Calls P f args w R :=
  ⟨fun h cs => let ⟨e, w', fr, r, s, x⟩ := h.2 cs (room_wide _); ⟨e, w', fr, r, comesIn_wide.1 s, x⟩,
   fun h => ⟨trivial, fun cs _ => let ⟨e, w', fr, r, s, x⟩ := h cs; ⟨e, w', fr, r, comesIn_wide.2 s, x⟩⟩⟩
theorem WideF.calls {F : Fence} (h : WideF F) {P : Program} {n : Nat} {f : FuncId} {args : Array Value} {w : World} {R : Ending → World → Prop} : CallsIn F n P f args w R ↔ Calls P f args w R := by
  rcases h with rfl | ⟨l, rfl⟩
  · exact callsIn_wide
  · exact callsIn_inRound

/-- What is asked of a call. -/
def CallOk (C : Cx) (B : Nat) (f : Nat) (args : List Value) (s : St) (v : Value) (s' : St) : Prop :=
  ∀ (σ : Sg) (w : World) (args' : List Value), HRel C B σ s w → LRel σ (· < s.nx) args args' → Calls C.P f args'.toArray w fun e w' => ∃ v' σ', e = .returned v' ∧ VRel σ' (· < s'.nx) v v' ∧ HRel C B σ' s' w' ∧ Ext σ σ' s s' w w'
structure IntrOk (C : Cx) : Prop where
  ext : ∀ f i, C.ext f = some i → ∀ (B : Nat) (args : List Value) (s : St) (v : Value) (s' : St), i args s = .ok (v, s') → ∀ (σ : Sg) (w : World) (args' : List Value), HRel C B σ s w → LRel σ (· < s.nx) args args' →
    ∃ v' w' σ', (callFunc f args'.toArray).run C.P w = .ok (.value v') w' ∧ VRel σ' (· < s'.nx) v v' ∧ HRel C B σ' s' w' ∧ Ext σ σ' s s' w w'
  body : ∀ f i, C.intr f = some i → ∃ fn, C.P.funcs[f]? = some fn ∧ fn.body.isSome = true
  call : ∀ f i, C.intr f = some i → ∀ B args s v s', i args s = .ok (v, s') → CallOk C B f args s v s'
/-- What is asked of code. -/
def RecOk (C : Cx) (rec : Rec) : Prop := ∀ (B : Nat) (rd : Option Nat) (c : Code) (fr : Fr) (s : St) (e : Ex) (fr' : Fr) (s' : St), rec rd c fr s = .ok (e, fr', s') →
  ∀ (σ : Sg) (w : World) (a : Act) (n : Nat) (Q : Exit → Act → World → Prop), (∀ l, rd = some l → l < s.nx) → HRel C B σ s w → FRel σ s fr a →
    (∀ σ' a' w', HRel C B σ' s' w' → Ext σ σ' s s' w w' → FRel σ' s' fr' a' → Q (exitOf e) a' w') → c.wpIn (FF σ rd) n C.P Q a w
def NameOk (P : Program) : Prop := ∀ (f : Nat) (fn : Func), P.funcs[f]? = some fn → fn.name ≠ "runtime.NumGoroutine"

theorem run_callFunc {P : Program} (hN : NameOk P) {f : FuncId} {fn : Func} (hf : P.funcs[f]? = some fn) (hb : fn.body.isSome = true) (args : Array Value) (w : World) : (callFunc f args).run P w = .ok (.enter f args) w := by
  have hn := hN f fn hf
  have hbn : fn.body.isNone = false := by cases hx : fn.body <;> simp [hx] at hb ⊢
  have hnm : (fn.name == "runtime.NumGoroutine") = false := by simpa using hn
  have hb2 : ¬ fn.body = none := by intro e; rw [e] at hb; cases hb
  simp [callFunc, hf]
  rw [if_neg hn, if_neg hb2]

section
variable {C : Cx} (ok : CxOk C) {B : Nat} {σ : Sg} {s s' : St} {w : World}

/- temporaries at a function's beginning -/
theorem fillA_ok : ∀ (args : List Value) (i : Nat) (t t' : Tm), fillA args i t = .ok t' → ∀ j v, Tm.get t' j = some v → (i ≤ j ∧ args[j - i]? = some v) ∨ ((j < i ∨ i + args.length ≤ j) ∧ Tm.get t j = some v)
  | [], i, t, t', h, j, v, hj => by
    simp [fillA] at h; subst h
    right; refine ⟨?_, hj⟩; simp; omega
  | x :: xs, i, t, t', h, j, v, hj => by
    simp only [fillA] at h
    obtain ⟨t1, h1, h⟩ := bnd_ok.1 h
    obtain ⟨_, g2, g3⟩ := updM_ok h1
    rcases fillA_ok xs (i + 1) t1 t' h j v hj with ⟨k1, k2⟩ | ⟨k1, k2⟩
    · left
      refine ⟨by omega, ?_⟩
      rw [show j - i = (j - (i + 1)) + 1 by omega]; simpa using k2
    · by_cases e : j = i
      · subst e
        rw [g2] at k2; injection k2 with k2; subst k2
        left; exact ⟨Nat.le_refl _, by simp⟩
      · rw [g3 j e] at k2
        right; refine ⟨?_, k2⟩
        simp only [List.length_cons]; omega
theorem undef_rel {D : Nat → Prop} : VRel σ D Go.undef Go.undef := .tuple rfl (fun i v v' h => by simp [Go.undef] at h)
theorem enter_rel {D : Nat → Prop} {args args' : List Value} {n : Nat} {t : Tm} (ha : LRel σ D args args') (h : fillA args 0 (blank n) = .ok t) : TRel σ D t (args'.toArray ++ Array.replicate (n - args'.toArray.size) Go.undef) := by
  intro j v hj
  have hl := ha.len
  rcases fillA_ok args 0 (blank n) t h j v hj with ⟨_, k2⟩ | ⟨k1, k2⟩
  · simp only [Nat.sub_zero] at k2
    obtain ⟨v', h1, h2⟩ := ha.get j v k2
    have hlt : j < args'.length := (List.getElem?_eq_some_iff.1 h1).1
    exact ⟨v', by rw [Array.getElem?_append_left (by simpa using hlt)]; simpa using h1, h2⟩
  · have := Tm.ofList_get _ _ _ k2
    have hjn : j < n := by have := (List.getElem?_eq_some_iff.1 this).1; simpa using this
    have hv : v = Go.undef := by
      rw [List.getElem?_replicate, if_pos hjn] at this; injection this with this; exact this.symm
    subst hv
    refine ⟨Go.undef, ?_, undef_rel⟩
    have hsz : args'.toArray.size = args'.length := by simp
    have hge : args'.toArray.size ≤ j := by omega
    rw [Array.getElem?_append_right hge, Array.getElem?_replicate, if_pos (by omega)]
/-- one result -/
def resV (a : Array Value) : ResultVar → Sem Value
  | .tmp t => pure (a.getD t Go.undef)
  | .cell x t => do loadVar t (← asAddr (a.getD x Go.undef))
theorem results_eq (fn : Func) (a : Array Value) : results fn a = (do let vs ← fn.results.mapM (resV a); pure (if h : vs.size = 1 then vs[0] else .tuple vs)) := by
  have e : (fun r => resV a r) = (fun r => match r with | .tmp t => pure (a.getD t Go.undef) | .cell x t => do loadVar t (← asAddr (a.getD x Go.undef)) : ResultVar → Sem Value) := by
    funext r; cases r <;> rfl
  show _ = (do let vs ← fn.results.mapM (fun r => resV a r); pure (if h : vs.size = 1 then vs[0] else .tuple vs))
  rw [e]; rfl
include ok
theorem results_ok (h : HRel C B σ s w) {t : Tm} {a : Array Value} (ht : TRel σ (· < s.nx) t a) : ∀ {l : List ResultVar} {vs : List Value}, resultsA C s t l = .ok vs →
    ∃ vs' : List Value, LRel σ (· < s.nx) vs vs' ∧ (l.mapM (resV a)).run C.P w = .ok vs' w
  | [], vs, hr => by simp [resultsA] at hr; subst hr; exact ⟨[], trivial, by simp⟩
  | .tmp x :: l, vs, hr => by
    simp only [resultsA] at hr
    replace hr := bnd_ok.1 hr; obtain ⟨v, hv, hr⟩ := hr
    replace hr := bnd_ok.1 hr; obtain ⟨vs1, hvs, hr⟩ := hr
    simp at hr; subst hr
    obtain ⟨v', h1, h2⟩ := ht _ _ (some_ok.1 hv)
    obtain ⟨vs', h3, h4⟩ := results_ok h ht hvs
    have hg : a.getD x Go.undef = v' := by rw [Array.getD_eq_getD_getElem?, h1]; rfl
    exact ⟨v' :: vs', ⟨h2, h3⟩, by simp only [List.mapM_cons, Sem.run_bind, resV, Sem.run_pure, Result.andThen_ok, hg, h4]⟩
  | .cell x ty :: l, vs, hr => by
    simp only [resultsA] at hr
    replace hr := bnd_ok.1 hr; obtain ⟨v, hv, hr⟩ := hr
    obtain ⟨v', h1, h2⟩ := ht _ _ (some_ok.1 hv)
    cases v with
    | pointer p =>
      cases p with
      | none => simp at hr
      | some p =>
        simp only [] at hr
        replace hr := bnd_ok.1 hr; obtain ⟨u, hu, hr⟩ := hr
        replace hr := bnd_ok.1 hr; obtain ⟨vs1, hvs, hr⟩ := hr
        simp at hr; subst hr
        obtain ⟨_, _, u', h5, h6⟩ := load_ok ok h hu
        obtain ⟨vs', h3, h4⟩ := results_ok h ht hvs
        have hg : a.getD x Go.undef = .pointer (some ⟨(σ p.block).blk, p.off, none⟩) := by rw [Array.getD_eq_getD_getElem?, h1]; exact h2.ptr_inv.2.2
        exact ⟨u' :: vs', ⟨h5, h3⟩, by
          have ha : ∀ q, (asAddr (.pointer (some q))).run C.P w = .ok q w := fun q => rfl
          simp only [List.mapM_cons, Sem.run_bind, resV, Sem.run_pure, Result.andThen_ok, hg, ha, h6, h4]⟩
    | _ => simp at hr
theorem results_one (h : HRel C B σ s w) {t : Tm} {a : Array Value} (ht : TRel σ (· < s.nx) t a) {fn : Func} {vs : List Value} (hr : resultsA C s t fn.results.toList = .ok vs) :
    ∃ v', VRel σ (· < s.nx) (oneOf vs) v' ∧ (results fn a).run C.P w = .ok v' w := by
  obtain ⟨vs', h1, h2⟩ := results_ok ok h ht hr
  have hl := h1.len
  have hrun : (fn.results.mapM (resV a)).run C.P w = .ok vs'.toArray w := by
    rw [Array.mapM_eq_mapM_toList, Sem.run_map, h2]; rfl
  match vs, vs', h1 with
  | [x], [x'], hx => exact ⟨x', hx.1, by rw [results_eq, Sem.run_bind, hrun]; simp⟩
  | [], [], hx => exact ⟨.tuple #[], LRel.tup (l := []) (r := []) trivial, by rw [results_eq, Sem.run_bind, hrun]; simp⟩
  | x :: y :: l, x' :: y' :: l', hx => exact ⟨_, LRel.tup hx, by rw [results_eq, Sem.run_bind, hrun]; simp⟩
omit ok in
theorem leave_ok {fn : Func} {tmps : Array Value} {n : Nat} {R : Ending → World → Prop} : ∀ {marks : List Nat} {s : St} {w : World}, leaveA s marks = .ok s' → HRel C B σ s w →
    (∀ w', HRel C B σ s' w' → Ext σ σ s s' w w' → ∃ v, (results fn tmps).run C.P w' = .ok v w' ∧ R (.returned v) w') → LeavesInM Fence.wide n C.P fn tmps R (marks.map fun d => markD (σ d).blk) .returning w
  | [], s, w, h, hh, hk => by
    simp [leaveA] at h; subst h
    exact hk w hh (Ext.refl _ _ _)
  | d :: ds, s, w, h, hh, hk => by
    simp only [leaveA] at h
    split at h
    · rename_i hg
      replace h := bnd_ok.1 h; obtain ⟨s1, hput, h⟩ := h
      obtain ⟨h1, o', h2, h3⟩ := hh.obj d _ hg rfl
      have h3 : o' = .deferred (some []) := h3
      subst h3
      obtain ⟨q1, q2, q3⟩ := hh.put (w' := w.putObj (σ d).blk (.deferred none)) hput ⟨_, hg, rfl, rfl⟩ (fun k hk => World.putObj_heap_other hk) (World.putObj_size) rfl rfl rfl (fun e => by cases e)
      refine ⟨by simp, .inl ⟨(σ d).blk, _, rfl, run_takeDeferred h2, ?_⟩⟩
      exact leave_ok h q1 (fun w' g1 g2 => hk w' g1 (Ext.trans hh q1 q2 g2))
    · simp at h
/-- A call of a function of the program's own. -/
theorem callF_ok (hN : NameOk C.P) (hI : IntrOk C) {rec : Rec} (hR : RecOk C rec) {f : Nat} {args : List Value} {v : Value} (hs : callF C rec f args s = .ok (v, s')) :
    (∃ fn, C.P.funcs[f]? = some fn ∧ fn.body.isSome = true) ∧ CallOk C B f args s v s' := by
  unfold callF at hs
  cases hi : C.intr f with
  | some i =>
    rw [hi] at hs
    exact ⟨hI.body f i hi, hI.call f i hi B args s v s' hs⟩
  | none =>
    rw [hi] at hs
    simp only [] at hs
    replace hs := bnd_ok.1 hs; obtain ⟨fn, hfn, hs⟩ := hs
    have hfn := ok.funcs f fn (some_ok.1 hfn)
    cases hb : fn.body with
    | none => rw [hb] at hs; simp at hs
    | some c =>
      rw [hb] at hs
      simp only [] at hs
      replace hs := bnd_ok.1 hs; obtain ⟨t, ht, hs⟩ := hs
      replace hs := bnd_ok.1 hs; obtain ⟨⟨e, fr, s1⟩, hrec, hs⟩ := hs
      refine ⟨⟨fn, hfn, by rw [hb]; rfl⟩, fun σ w args' h ha => ?_⟩
      refine callsIn_wide.1 (callsIn_of_wp_marks (F := Fence.wide) (n := 0) hfn hb trivial ?_)
      have hfr : FRel σ s { tmps := t, marks := [] } { tmps := args'.toArray ++ Array.replicate (fn.ntmps - args'.toArray.size) Go.undef, defers := [] } := ⟨enter_rel ha ht, rfl, fun d hd => by cases hd⟩
      have done : ∀ (hs : M.bnd (leaveA s1 fr.marks) (fun s => M.bnd (resultsA C s fr.tmps fn.results.toList) fun vs => .ok (oneOf vs, s)) = .ok (v, s')) (σ' : Sg) (a' : Act) (w' : World), HRel C B σ' s1 w' → Ext σ σ' s s1 w w' → FRel σ' s1 fr a' →
          LeavesInM Fence.wide 0 C.P fn a'.tmps (fun e w' => ∃ v' σ', e = .returned v' ∧ VRel σ' (· < s'.nx) v v' ∧ HRel C B σ' s' w' ∧ Ext σ σ' s s' w w') a'.defers .returning w' := by
        intro hs σ' a' w' h1 h2 h3
        replace hs := bnd_ok.1 hs; obtain ⟨s2, hl, hs⟩ := hs
        replace hs := bnd_ok.1 hs; obtain ⟨vs, hvs, hs⟩ := hs
        simp at hs; obtain ⟨rfl, rfl⟩ := hs
        rw [h3.marks]
        refine leave_ok hl h1 (fun w2 g1 g2 => ?_)
        obtain ⟨v', k1, k2⟩ := results_one ok g1 (h3.ext g2).tmps hvs
        exact ⟨v', k2, v', σ', rfl, k1, g1, Ext.trans h h1 h2 g2⟩
      refine hR B none c _ s e fr s1 hrec σ w _ 0 _ (fun l hl => by cases hl) h hfr ?_
      intro σ' a' w' h1 h2 h3
      cases e with
      | normal => exact done hs σ' a' w' h1 h2 h3
      | ret => exact done hs σ' a' w' h1 h2 h3
      | exit id => simp at hs
end
end Go.Proofs.YtoddlefhlicfiaaGreatDoorR.X

/- The executor's operations, calls and rounds among them, one behind the other. -/
set_option linter.unusedSimpArgs false
set_option linter.unusedVariables false
namespace Go.Proofs.YtoddlefhlicfiaaGreatDoorR.X
open Go

section
variable {C : Cx} (ok : CxOk C) (hN : NameOk C.P) (hI : IntrOk C) {rec : Rec} (hR : RecOk C rec) {B : Nat} {σ : Sg} {s s' : St} {w : World} {ρ : Operand → M Value} {a : Act} {o : Oper} {v : Value}

theorem put_ok {D : Nat → Prop} {t t' : Tm} {dst : Option Tmp} {v' : Value} (h : put t dst v = .ok t') (ht : TRel σ D t a.tmps) (hv : VRel σ D v v') : TRel σ D t' (a.put dst v').tmps := by
  cases dst with
  | none => simp [put] at h; subst h; exact ht
  | some d => exact TRel.set ht h hv
theorem put_defers (a : Act) (dst : Option Tmp) (v' : Value) : (a.put dst v').defers = a.defers := by cases dst <;> rfl
theorem wanted_ok {D : Nat → Prop} {ops : Array Oper} {b : Bool} (he : ERel σ D ρ a) (h : wantedA ops.toList ρ o.guard = .ok b) : Region.wanted o (yielded ops a.tmps) = b := by
  unfold wantedA at h
  unfold Region.wanted
  cases hg : o.guard with
  | none => rw [hg] at h; simp at h; subst h; rfl
  | some jw =>
    obtain ⟨j, want⟩ := jw
    rw [hg] at h
    simp only [] at h ⊢
    replace h := bnd_ok.1 h; obtain ⟨o', ho', h⟩ := h
    replace h := bnd_ok.1 h; obtain ⟨d, hd, h⟩ := h
    replace h := bnd_ok.1 h; obtain ⟨u, hu, h⟩ := h
    have ho' := some_ok.1 ho'
    have hd := some_ok.1 hd
    have hv := he _ _ hu
    have hy : yielded ops a.tmps j = match a.eval (.tmp d) with | .bool b => some b | _ => none := by
      unfold yielded
      have : ops[j]? = some o' := by simpa using ho'
      simp only [this, Option.bind_some, hd, Act.eval, Array.getD_eq_getD_getElem?]
      cases hx : a.tmps[d]? with
      | none => simp [Go.undef]
      | some x => cases x <;> rfl
    rw [hy]
    cases u with
    | bool c =>
      simp at h; subst h
      rw [hv.bool]
      cases c <;> cases want <;> rfl
    | _ =>
      simp at h; subst h
      have hnb : ∀ c, a.eval (.tmp d) ≠ .bool c := fun c e => by rw [e] at hv; cases hv
      cases hx : a.eval (.tmp d) <;> first | exact absurd hx (hnb _) | (cases want <;> rfl)
theorem rdLoop_ok (h : HRel C B σ s w) {l : Nat} {r : ALoop} (hr : rdLoop s l = .ok r) : LiveW s l ∧ s.h.get l = some (.loop r) ∧ l < s.nx ∧ ∃ r', w.heap[(σ l).blk]? = some (.loop r') ∧ r'.state = r.st ∧ r'.pending = r.pend ∧ r'.params = r.params ∧ r'.assign = r.assign ∧ r'.body = r.body ∧ TRel σ (· < s.nx) r.tmps r'.tmps := by
  unfold rdLoop at hr
  split at hr
  · rename_i r0 hg
    simp at hr; subst hr
    obtain ⟨_, o', h1, r', h2, h3⟩ := h.obj l _ hg rfl
    subst h2
    exact ⟨⟨_, hg, rfl, rfl⟩, hg, h.lt l _ hg, r', h1, h3⟩
  · simp at hr
theorem setParams_ok {D : Nat → Prop} : ∀ {ps : List Tmp} {args args' : List Value} {t t' : Tm} {b : Array Value}, setParams ps args t = .ok t' → LRel σ D args args' → TRel σ D t b →
    ps.length = args'.length ∧ TRel σ D t' ((ps.zip args').foldl (fun tmps (x : Tmp × Value) => tmps.setIfInBounds x.1 x.2) b)
  | [], [], args', t, t', b, h, ha, ht => by
    simp [setParams] at h; subst h
    match args', ha with
    | [], _ => exact ⟨rfl, by simpa using ht⟩
  | p :: ps, x :: xs, args', t, t', b, h, ha, ht => by
    match args', ha with
    | x' :: xs', ha =>
      simp only [setParams] at h
      replace h := bnd_ok.1 h; obtain ⟨t1, h1, h⟩ := h
      obtain ⟨k1, k2⟩ := setParams_ok h ha.2 (ht.set h1 ha.1)
      exact ⟨by simp [k1], by simpa using k2⟩
  | [], _ :: _, _, _, _, _, h, _, _ => by simp [setParams] at h
  | _ :: _, [], _, _, _, _, h, _, _ => by simp [setParams] at h
include ok hN hI hR
omit ok hN hI in
theorem round_ok {F : Fence} (hF : WideF F) {l : Nat} {args args' : List Value} (h : HRel C B σ s w) (ha : LRel σ (· < s.nx) args args') (hs : roundF rec l args s = .ok (v, s')) :
    ∃ fn tmps as bd, (Instr.yield (σ l).blk args'.toArray).run C.P w = .ok (.round (σ l).blk fn tmps as bd) w ∧ ∀ n, RoundIn F n C.P (σ l).blk fn tmps as bd w fun e w' => ∃ v' σ', e = .returned v' ∧ VRel σ' (· < s'.nx) v v' ∧ HRel C B σ' s' w' ∧ Ext σ σ' s s' w w' := by
  unfold roundF at hs
  replace hs := bnd_ok.1 hs; obtain ⟨r, hr, hs⟩ := hs
  replace hs := bnd_ok.1 hs; obtain ⟨t, ht, hs⟩ := hs
  replace hs := bnd_ok.1 hs; obtain ⟨⟨e, fr, s1⟩, hrec, hs⟩ := hs
  obtain ⟨hlive, hg, hlt, r', h1, h2, h3, h4, h5, h6, h7⟩ := rdLoop_ok h hr
  obtain ⟨k1, k2⟩ := setParams_ok ht ha h7
  have hy := run_yield (P := C.P) (args := args'.toArray) h1 (by rw [h4]; simpa using k1.symm)
  refine ⟨_, _, _, _, hy, fun n => ?_⟩
  have hFr : F.inRound (σ l).blk = Fence.wide.inRound (σ l).blk := by rcases hF with rfl | ⟨x, rfl⟩ <;> rfl
  refine roundIn_of_wpIn (hF.fn _) ?_
  rw [hFr]
  have htm : ((r'.params.zip args'.toArray).foldl (fun tmps (x : Tmp × Value) => tmps.setIfInBounds x.1 x.2) r'.tmps) = ((r.params.toList.zip args').foldl (fun tmps (x : Tmp × Value) => tmps.setIfInBounds x.1 x.2) r'.tmps) := by
    rw [h4, ← Array.foldl_toList]; simp
  have hfr : FRel σ s { tmps := t, marks := [] } { tmps := (r'.params.zip args'.toArray).foldl (fun tmps (x : Tmp × Value) => tmps.setIfInBounds x.1 x.2) r'.tmps, defers := [] } :=
    ⟨by show TRel σ _ t _; rw [htm]; exact k2, rfl, fun d hd => by cases hd⟩
  rw [h5, h6]
  refine hR B (some l) r.assign _ s e fr s1 hrec σ w _ n _ (fun l' e' => by injection e' with e'; omega) h hfr ?_
  intro σ1 a1 w1 g1 g2 g3
  cases e with
  | exit id => simp at hs
  | ret => simp at hs
  | normal =>
  simp only [] at hs
  cases hm : fr.marks with
  | cons d ds => rw [hm] at hs; simp at hs
  | nil =>
    rw [hm] at hs
    simp only [] at hs
    replace hs := bnd_ok.1 hs; obtain ⟨r1, hr1, hs⟩ := hs
    obtain ⟨hlive1, hg1, hlt1, r1', q1, q2, q3, q4, q5, q6, q7⟩ := rdLoop_ok g1 hr1
    have e1 : (σ1 l).blk = (σ l).blk := by rw [g2.sg l hlt]
    split at hs
    · rename_i hst
      replace hs := bnd_ok.1 hs; obtain ⟨s2, hput, hs⟩ := hs
      replace hs := bnd_ok.1 hs; obtain ⟨⟨e2, fr3, s3⟩, hrec2, hs⟩ := hs
      have hlt1' := (Array.getElem?_eq_some_iff.1 q1).1
      obtain ⟨p1, p2, p3⟩ := g1.put (w' := w1.putObj (σ1 l).blk (.loop { r1' with state := .busy })) hput hlive1 (fun k hk => World.putObj_heap_other hk) (World.putObj_size) rfl rfl rfl
        (fun _ => ⟨_, World.putObj_heap_same hlt1', _, rfl, rfl, q3, q4, q5, q6, q7⟩)
      refine ⟨_, by rw [← e1]; exact run_beginRound q1 (by rw [q2]; exact hst), ?_⟩
      rw [← e1]
      refine hR B (some l) r.body fr s2 e2 fr3 s3 hrec2 σ1 _ a1 n _ (fun l' e' => by injection e' with e'; omega) p1 (g3.ext p2) ?_
      intro σ3 a3 w3 m1 m2 m3
      simp only [] at hs
      split at hs
      · rename_i hm3
        replace hs := bnd_ok.1 hs; obtain ⟨r2, hr2, hs⟩ := hs
        obtain ⟨hlive3, hg3, hlt3, r3', u1, u2, u3, u4, u5, u6, u7⟩ := rdLoop_ok m1 hr2
        have e3 : (σ3 l).blk = (σ1 l).blk := by rw [m2.sg l (by omega)]
        have hlt3' := (Array.getElem?_eq_some_iff.1 u1).1
        have ext3 := Ext.trans h g1 g2 (Ext.trans g1 p1 p2 m2)
        have fin : ∀ (jump : Option Code) (r4 : ALoop) (s4 : St), (putO s3 l (.loop r4) = .ok s4) → r4 = { r2 with st := if jump.isNone then .ready else .done, pend := jump } →
            ∃ v' w', (Instr.endRound (σ1 l).blk jump).run C.P w3 = .ok v' w' ∧ ∃ v'' σ', (Ending.returned v' : Ending) = .returned v'' ∧ VRel σ' (· < s4.nx) (.bool jump.isNone) v'' ∧ HRel C B σ' s4 w' ∧ Ext σ σ' s s4 w w' := by
          intro jump r4 s4 hput4 hr4
          subst hr4
          obtain ⟨x1, x2, x3⟩ := m1.put (w' := w3.putObj (σ3 l).blk (.loop { r3' with state := if jump.isNone then .ready else .done, pending := jump })) hput4 hlive3 (fun k hk => World.putObj_heap_other hk) (World.putObj_size) rfl rfl rfl
            (fun _ => ⟨_, World.putObj_heap_same hlt3', _, rfl, rfl, rfl, u4, u5, u6, u7⟩)
          refine ⟨_, _, by rw [← e3]; exact run_endRound jump u1, _, σ3, rfl, .flat rfl, x1, Ext.trans h m1 ext3 x2⟩
        cases e2 with
        | normal =>
          simp only [jumpOf] at hs
          replace hs := bnd_ok.1 hs; obtain ⟨s4, hput4, hs⟩ := hs
          simp at hs; obtain ⟨rfl, rfl⟩ := hs
          exact fin none _ s4 hput4 rfl
        | ret =>
          simp only [jumpOf] at hs
          replace hs := bnd_ok.1 hs; obtain ⟨s4, hput4, hs⟩ := hs
          simp at hs; obtain ⟨rfl, rfl⟩ := hs
          exact fin (some .ret) _ s4 hput4 rfl
        | exit id =>
          simp only [jumpOf] at hs
          replace hs := bnd_ok.1 hs; obtain ⟨s4, hput4, hs⟩ := hs
          simp at hs; obtain ⟨rfl, rfl⟩ := hs
          exact fin (some (.exit id)) _ s4 hput4 rfl
      · simp at hs
    · simp at hs
/-- One operation. -/
theorem op_wp {F : Fence} (hF : WideF F) {n : Nat} {next : Act → World → Prop} {Q : Exit → Act → World → Prop} (he : ERel σ (· < s.nx) ρ a) (h : HRel C B σ s w) (hs : opR C rec o ρ s = .ok (v, s'))
    (hn : ∀ σ' w' v', HRel C B σ' s' w' → Ext σ σ' s s' w w' → VRel σ' (· < s'.nx) v v' → next (a.put o.dst v') w') : o.wpIn F n C.P a w next Q := by
  refine ⟨fun f _ => hF.fn f, ?_⟩
  have simple : (∀ c, o.op ≠ .defer c) → DoneAt C B σ o a s s' w v → o.uponIn F n C.P a next Q ((o.semAt F.round a.eval).run C.P w) := by
    intro hd hdone
    obtain ⟨σ', w', r, v', h1, h2, h3, h4, h5⟩ := hdone
    rw [Oper.semAt_plain F _ _ hd, h1]
    rcases h2 with rfl | ⟨rfl, rfl⟩
    · exact hn σ' w' v' h3 h4 h5
    · exact hn σ' w' _ h3 h4 h5
  by_cases hcall : ∃ c, o.op = .call c ∧ ∀ b, c.callee ≠ .builtin b
  · obtain ⟨c, hc, hnb⟩ := hcall
    have hd : ∀ c, o.op ≠ .defer c := fun c e => by rw [hc] at e; cases e
    rw [Oper.semAt_plain F _ _ hd]
    unfold opR at hs
    rw [hc] at hs
    simp only [] at hs
    have hs : M.bnd (targetA ρ c) (fun g => match g with | .fn f args => (match C.ext f with | some i => i args s | none => callF C rec f args s) | .round l args => roundF rec l args s) = .ok (v, s') := by
      first
        | exact hs
        | (split at hs
           · rename_i b hb; exact absurd hb (hnb b)
           · exact hs)
    obtain ⟨g, hg, hs⟩ := bnd_ok.1 hs
    unfold targetA at hg
    obtain ⟨args, hargs, hg⟩ := bnd_ok.1 hg
    have hargs' := call_args he hargs
    cases hcc : c.callee with
    | builtin b => exact absurd hcc (hnb b)
    | invoke r m => rw [hcc] at hg; simp at hg
    | value f =>
      rw [hcc] at hg
      simp only [] at hg
      obtain ⟨fv, hfv, hg⟩ := bnd_ok.1 hg
      have hf := he f _ hfv
      have hexec : ∀ {fn : Fn} {first cap : Array Value}, a.eval f = .func fn first cap → (execOp a.eval o).run C.P w = (invoke (.fn fn cap) (first ++ c.args.map a.eval)).run C.P w := by
        intro fn first cap e
        simp only [execOp, hc, resolve, hcc, e, Deferred.ofValue, Sem.run_bind, Sem.run_pure, Result.andThen_ok]
      cases fv with
      | func fn first cap =>
        cases fn with
        | func g' =>
          simp at hg; subst hg
          obtain ⟨a', c', e1, l1, l2⟩ := hf.func_inv
          simp only [] at hs
          have ea : (a'.toList ++ ((c.args.map a.eval).toList ++ c'.toList)).toArray = a' ++ c.args.map a.eval ++ c' := by apply Array.ext'; simp
          cases hext : C.ext g' with
          | some i =>
            rw [hext] at hs
            obtain ⟨v', w', σ', q0, q1, q2, q3⟩ := hI.ext g' i hext B _ s v s' hs σ w (a'.toList ++ ((c.args.map a.eval).toList ++ c'.toList)) h (l1.app (hargs'.app l2))
            rw [ea] at q0
            rw [hexec e1]
            simp only [invoke]
            rw [q0]
            exact hn σ' w' v' q2 q3 q1
          | none =>
          rw [hext] at hs
          obtain ⟨⟨fn, hfn, hb⟩, hcok⟩ := callF_ok (B := B) ok hN hI hR hs
          rw [hexec e1]
          simp only [invoke, run_callFunc hN hfn hb]
          refine ⟨hF.depth, hF.calls.2 ?_⟩
          have := hcok σ w (a'.toList ++ ((c.args.map a.eval).toList ++ c'.toList)) h (l1.app (hargs'.app l2))
          rw [ea] at this
          refine this.mono ?_
          rintro e w' ⟨v', σ', rfl, q1, q2, q3⟩
          exact hn σ' w' v' q2 q3 q1
        | yield l =>
          have hg : (match first.toList, cap.toList with | [], [] => (.ok (.round l args) : M Tgt) | _, _ => .error "yield") = .ok g := hg
          split at hg
          · simp at hg; subst hg
            obtain ⟨hl, rfl, rfl, e1⟩ := hf.yield_inv
            obtain ⟨fn, tmps, as, bd, hy, hround⟩ := round_ok (B := B) hR hF h hargs' hs
            rw [hexec e1]
            simp only [invoke, Array.empty_append]
            have ea : (c.args.map a.eval).toList.toArray = c.args.map a.eval := Array.toArray_toList
            rw [ea] at hy
            rw [hy]
            refine ⟨hF.depth, (hround (n - 1)).mono ?_⟩
            rintro e w' ⟨v', σ', rfl, q1, q2, q3⟩
            exact hn σ' w' v' q2 q3 q1
          · simp at hg
        | _ => simp at hg
      | _ => simp at hg
  · have hs' : simpleA C s ρ o.op = .ok (v, s') := by
      unfold opR at hs
      split at hs
      · rename_i c hc
        split at hs
        · exact hs
        · rename_i hcb
          exact absurd ⟨c, hc, fun b e => hcb b e⟩ hcall
      · exact hs
    refine simple (fun c e => ?_) (simple_done ok he h hs')
    rw [e] at hs'; simp [simpleA] at hs'
end
end Go.Proofs.YtoddlefhlicfiaaGreatDoorR.X
