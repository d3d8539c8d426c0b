/- The executor, part B: its texts one behind the other (see each head). No statement of the seat stands here. -/
import Derived.Test.YtoddlefhlicfiaaGreatDoorRXA
import Derived.Laws.BytesString
import Derived.Deep.MidRow
import Derived.Laws.IdiomStrings
import Derived.Laws.AppendOwn
set_option linter.unusedVariables false
set_option linter.unusedSimpArgs false
/- The executor's operations that touch no memory are the model's: one by one. -/
set_option linter.unusedSimpArgs false
set_option linter.unusedVariables false
namespace Go.Proofs.YtoddlefhlicfiaaGreatDoorR.X
open Go

/-- what an operation comes to in every world -/
def PureAt (P : Program) (o : Oper) (a : Act) (v : Value) : Prop := ∀ w, (execOp a.eval o).run P w = .ok (.value v) w

section
variable {C : Cx} (ok : CxOk C) {σ : Sg} {D : Nat → Prop} {ρ : Operand → M Value} {a : Act} (he : ERel σ D ρ a) {o : Oper} {s s' : St} {v : Value}
include ok he

omit ok in
theorem pure_move {x : Operand} (ho : o.op = .move x) (h : simpleA C s ρ (.move x) = .ok (v, s')) : s' = s ∧ ∃ v', VRel σ D v v' ∧ PureAt C.P o a v' := by
  obtain ⟨u, hu, h⟩ := bnd_ok.1 h
  simp at h; obtain ⟨rfl, rfl⟩ := h
  exact ⟨rfl, _, he x _ hu, fun w => by simp [execOp, ho]⟩
omit ok in
theorem pure_assign {x : Operand} (ho : o.op = .assign x) (h : simpleA C s ρ (.assign x) = .ok (v, s')) : s' = s ∧ ∃ v', VRel σ D v v' ∧ PureAt C.P o a v' := by
  obtain ⟨u, hu, h⟩ := bnd_ok.1 h
  simp at h; obtain ⟨rfl, rfl⟩ := h
  exact ⟨rfl, _, he x _ hu, fun w => by simp [execOp, ho]⟩
omit ok in
theorem pure_pick {c x y : Operand} (ho : o.op = .pick c x y) (h : simpleA C s ρ (.pick c x y) = .ok (v, s')) : s' = s ∧ ∃ v', VRel σ D v v' ∧ PureAt C.P o a v' := by
  obtain ⟨u, hu, h⟩ := bnd_ok.1 h
  have hc := he c _ hu
  cases u with
  | bool b =>
    cases b with
    | true =>
      simp only [] at h
      obtain ⟨u, hu, h⟩ := bnd_ok.1 h
      simp at h; obtain ⟨rfl, rfl⟩ := h
      exact ⟨rfl, _, he x _ hu, fun w => by simp [execOp, ho, hc.bool, asBool]⟩
    | false =>
      simp only [] at h
      obtain ⟨u, hu, h⟩ := bnd_ok.1 h
      simp at h; obtain ⟨rfl, rfl⟩ := h
      exact ⟨rfl, _, he y _ hu, fun w => by simp [execOp, ho, hc.bool, asBool]⟩
  | _ => simp at h
theorem pure_build {ty : TypeId} {ps : Array (Nat × Operand)} (ho : o.op = .build ty ps) (h : simpleA C s ρ (.build ty ps) = .ok (v, s')) : s' = s ∧ ∃ v', VRel σ D v v' ∧ PureAt C.P o a v' := by
  obtain ⟨z, hz, h⟩ := bnd_ok.1 h
  obtain ⟨pv, hpv, h⟩ := bnd_ok.1 h
  obtain ⟨d, hd, h⟩ := bnd_ok.1 h
  obtain ⟨_, _, _, hfz⟩ := zeroOf_ok ok hz
  obtain ⟨hp1, hp2⟩ := parts_ok he hpv
  have hmap : (ps.map fun (x : Nat × Operand) => (x.1, a.eval x.2)).toList = ps.toList.map fun (x : Nat × Operand) => (x.1, a.eval x.2) := by simp
  have hop : (execOp a.eval o) = (do pure (Next.value (← Instr.build ty (ps.map fun (x : Nat × Operand) => (x.1, a.eval x.2))))) := by simp only [execOp, ho]
  cases d with
  | struct fields =>
    simp only [] at h
    obtain ⟨pl, hpl, h⟩ := bnd_ok.1 h
    obtain ⟨l, hl, h⟩ := bnd_ok.1 h
    simp at h; obtain ⟨rfl, rfl⟩ := h
    unfold placesA at hpl
    obtain ⟨d', hd', hpl⟩ := bnd_ok.1 hpl
    rw [hd] at hd'; injection hd' with hd'; subst hd'
    simp only [] at hpl
    obtain ⟨cs', h6, h7⟩ := fill_ok (pl := pl) (place := fun i => some! "place" pl[i]?) (place' := fun i => pl.toArray[i]?) (fun i x hx => by simpa using some_ok.1 hx) hp1 hp2 (zero_cells (σ := σ) (D := D) hfz) hl
    refine ⟨rfl, .agg cs', by have := h7.agg; rwa [Array.toArray_toList] at this, fun w => ?_⟩
    have hpm : ∀ (fs : List Field) (pl : List (Nat × Nat)), mapM' (fun (f : Field) => M.bnd (szOf C f.type) fun n => .ok (f.offset, n)) fs = .ok pl →
        ((fs.mapM fun f => do pure (f.offset, ← sizeOf f.type) : Sem (List (Nat × Nat))).run C.P w = .ok pl w) := by
      intro fs
      induction fs with
      | nil => intro pl h; simp [mapM'] at h; subst h; simp
      | cons f fs ih =>
        intro pl h
        simp only [mapM'] at h
        obtain ⟨b, hb, h⟩ := bnd_ok.1 h
        obtain ⟨r, hr, h⟩ := bnd_ok.1 h
        injection h with h; subst h
        obtain ⟨n, hn, hb⟩ := bnd_ok.1 hb
        injection hb with hb; subst hb
        simp only [List.mapM_cons, Sem.run_bind, run_size ok hn, Result.andThen_ok, Sem.run_pure, ih r hr]
    have hpm' : ((fields.mapM fun f => do pure (f.offset, ← sizeOf f.type) : Sem (Array (Nat × Nat))).run C.P w = .ok pl.toArray w) := by
      rw [Array.mapM_eq_mapM_toList, Sem.run_map, hpm _ _ hpl]; rfl
    rw [hop]
    simp only [Sem.run_bind, Instr.build, run_zero ok hz, run_und ok hd, Result.andThen_ok, hpm', hmap, h6, Sem.run_pure]
  | array n elem =>
    simp only [] at h
    obtain ⟨sz, hsz, h⟩ := bnd_ok.1 h
    obtain ⟨l, hl, h⟩ := bnd_ok.1 h
    simp at h; obtain ⟨rfl, rfl⟩ := h
    obtain ⟨cs', h6, h7⟩ := fill_ok (pl := []) (place := fun i => .ok (i * sz, sz)) (place' := fun i => some (i * sz, sz)) (fun i x hx => by simpa using hx) hp1 hp2 (zero_cells (σ := σ) (D := D) hfz) hl
    refine ⟨rfl, .agg cs', by have := h7.agg; rwa [Array.toArray_toList] at this, fun w => ?_⟩
    rw [hop]
    simp only [Sem.run_bind, Instr.build, run_zero ok hz, run_und ok hd, Result.andThen_ok, run_size ok hsz, hmap, h6, Sem.run_pure]
  | _ => simp at h
omit ok in
theorem pure_nilCheck {x : Operand} (ho : o.op = .nilCheck x) (h : simpleA C s ρ (.nilCheck x) = .ok (v, s')) : s' = s ∧ ∃ v', VRel σ D v v' ∧ PureAt C.P o a v' := by
  obtain ⟨u, hu, h⟩ := bnd_ok.1 h
  have hx := he x _ hu
  cases u with
  | pointer p =>
    cases p with
    | none => simp at h
    | some p =>
      simp at h; obtain ⟨rfl, rfl⟩ := h
      refine ⟨rfl, _, hx, fun w => ?_⟩
      have := hx.ptr_inv.2.2
      simp [execOp, ho, this]
  | func f first cap =>
    cases f with
    | func f =>
      simp at h; obtain ⟨rfl, rfl⟩ := h
      refine ⟨rfl, _, hx, fun w => ?_⟩
      obtain ⟨a', c', h1, _, _⟩ := hx.func_inv
      simp [execOp, ho, h1]
    | _ => simp at h
  | iface ty u =>
    simp at h; obtain ⟨rfl, rfl⟩ := h
    refine ⟨rfl, _, hx, fun w => ?_⟩
    obtain ⟨u', h1, _⟩ := hx.iface_inv
    simp [execOp, ho, h1]
  | _ => simp at h
omit ok he in
theorem asI_ok {u : Value} {i : Int} (h : asI u = .ok i) : ∃ k, u = .int k i := by
  cases u with
  | int k n => simp [asI] at h; subst h; exact ⟨k, rfl⟩
  | _ => simp [asI] at h
omit ok he in
theorem natOf_ok {i : Int} {n : Nat} (h : natOf i = .ok n) : i = (n : Int) := by
  cases i with
  | ofNat m => simp [natOf] at h; subst h; rfl
  | negSucc m => simp [natOf] at h
omit ok he in
theorem guard_const {P : Program} {op : BinOp} {ty : TypeId} {x y : Operand} (hc : (∃ c, x = .const c) ∨ (∃ c, y = .const c)) (w : World) : (eqGuard op ty x y .nilIface .nilIface).run P w = .ok () w := by
  rcases hc with ⟨c, rfl⟩ | ⟨c, rfl⟩ <;> cases op <;> simp [eqGuard]
omit ok he in
theorem guard_agg {P : Program} {op : BinOp} {ty : TypeId} {x y : Operand} {xs ys : Array Value} (hg : P.eqGuardType P.depth ty = false) (w : World) : (eqGuard op ty x y (.agg xs) (.agg ys)).run P w = .ok () w := by
  cases op <;> simp [eqGuard, hg]
omit ok he in
theorem guard_other {P : Program} {op : BinOp} {ty : TypeId} {x y : Operand} {u v : Value} (n1 : ∀ xs ys, ¬ (u = .agg xs ∧ v = .agg ys)) (n2 : ¬ (u = .nilIface ∧ v = .nilIface)) (w : World) : (eqGuard op ty x y u v).run P w = .ok () w := by
  cases op <;> first
    | (simp [eqGuard]; done)
    | (simp only [eqGuard]
       simp only [Bool.not_true, Bool.false_eq_true, if_false]
       split
       · exact absurd ⟨rfl, rfl⟩ n2
       · exact absurd ⟨rfl, rfl⟩ (n1 _ _)
       · simp)
omit ok he in
theorem binOp_eql {ty : TypeId} {x y : Value} (h1 : ∀ k n j m, ¬ (x = .int k n ∧ y = .int j m)) (h2 : ∀ k n, x ≠ .float k n) (h3 : ∀ k n m, x ≠ .complex k n m) (h4 : ∀ b c, ¬ (x = .string b ∧ y = .string c)) :
    binOp .eql ty x y = (do pure (.bool (← Op.equal ty x y))) ∧ binOp .neq ty x y = (do pure (.bool (!(← Op.equal ty x y)))) := by
  constructor <;> (unfold binOp; split <;> first
    | rfl
    | exact absurd ⟨rfl, rfl⟩ (h1 _ _ _ _)
    | exact absurd rfl (h2 _ _)
    | exact absurd rfl (h3 _ _ _)
    | exact absurd ⟨rfl, rfl⟩ (h4 _ _)
    | (exfalso; simp_all; done))
omit ok he in
theorem eq_shape : ∀ {d : Nat} {ty : TypeId} {x y : Value} {r : Bool}, eqA C d ty x y = .ok r → (∀ k n, x ≠ .float k n) ∧ (∀ k n m, x ≠ .complex k n m)
  | 0, _, _, _, _, h => by simp [eqA] at h
  | d + 1, ty, x, y, r, h => by
    unfold eqA at h
    obtain ⟨u, hu, h⟩ := bnd_ok.1 h
    constructor
    · rintro k n rfl; cases u <;> simp at h
    · rintro k n m rfl; cases u <;> simp at h
theorem pure_binOp {op : BinOp} {ty ty2 : TypeId} {x y : Operand} (ho : o.op = .binOp op ty x y ty2) (h : simpleA C s ρ (.binOp op ty x y ty2) = .ok (v, s')) : s' = s ∧ ∃ v', VRel σ D v v' ∧ PureAt C.P o a v' := by
  obtain ⟨p, hp, h⟩ := bnd_ok.1 h
  obtain ⟨q, hq, h⟩ := bnd_ok.1 h
  have hx := he x _ hp
  have hy := he y _ hq
  have hop : (execOp a.eval o) = (do pure (Next.value (← (do eqGuard op ty x y (a.eval x) (a.eval y); binOp op ty (a.eval x) (a.eval y))))) := by simp only [execOp, ho]
  have guard : (∀ w, (eqGuard op ty x y (a.eval x) (a.eval y)).run C.P w = .ok () w) → ∀ {u : Value}, binA C op ty p q = .ok u → (∃ v', VRel σ D u v' ∧ PureAt C.P o a v') := by
    intro hg u hb
    have fin : ∀ {v' : Value}, VRel σ D u v' → (∀ w, (binOp op ty (a.eval x) (a.eval y)).run C.P w = .ok v' w) → ∃ v', VRel σ D u v' ∧ PureAt C.P o a v' := fun hv hr =>
      ⟨_, hv, fun w => by rw [hop]; simp [hg w, hr w]⟩
    unfold binA at hb
    split at hb
    · obtain ⟨h1, h2⟩ := intBin_ok hb
      exact fin (.flat h1) (by rw [hx.int, hy.int]; exact h2)
    · obtain ⟨h1, h2⟩ := strBin_ok (P := C.P) (t := ty) hb
      exact fin (.flat h1) (by rw [hx.string, hy.string]; exact h2)
    · rename_i n1 n2
      have inv : ∀ {b : Bool}, eqA C 50 ty p q = .ok b → (binOp .eql ty (a.eval x) (a.eval y) = (do pure (.bool (← Op.equal ty (a.eval x) (a.eval y)))) ∧ binOp .neq ty (a.eval x) (a.eval y) = (do pure (.bool (!(← Op.equal ty (a.eval x) (a.eval y)))))) ∧
          ∀ w, (Op.equal ty (a.eval x) (a.eval y)).run C.P w = .ok b w := by
        intro b hb
        obtain ⟨e1, e2⟩ := eq_shape hb
        refine ⟨binOp_eql ?_ ?_ ?_ ?_, fun w => eq_ok ok 50 hb hx hy Op.maxDepth (by decide) w⟩
        · rintro k n j m ⟨ha, hb'⟩
          rw [ha] at hx; rw [hb'] at hy
          cases hx; cases hy
          exact n1 _ _ _ _ rfl rfl
        · intro k n ha; rw [ha] at hx; cases hx; exact e1 _ _ rfl
        · intro k n m ha; rw [ha] at hx; cases hx; exact e2 _ _ _ rfl
        · rintro b c ⟨ha, hb'⟩
          rw [ha] at hx; rw [hb'] at hy
          cases hx; cases hy
          exact n2 _ _ rfl rfl
      cases op <;> try (simp at hb; done)
      · obtain ⟨b, hb1, hb⟩ := bnd_ok.1 hb
        injection hb with hb; subst hb
        obtain ⟨⟨k1, _⟩, k2⟩ := inv hb1
        exact fin (.flat rfl) (fun w => by rw [k1]; simp [k2])
      · obtain ⟨b, hb1, hb⟩ := bnd_ok.1 hb
        injection hb with hb; subst hb
        obtain ⟨⟨_, k1⟩, k2⟩ := inv hb1
        exact fin (.flat rfl) (fun w => by rw [k1]; simp [k2])
  have close : ∀ {u : Value} {f : Value → M (Value × St)}, M.bnd (binA C op ty p q) (fun v => .ok (v, s)) = .ok (v, s') → s' = s ∧ binA C op ty p q = .ok v := fun h => by
    obtain ⟨u, hu, h⟩ := bnd_ok.1 h
    simp at h; obtain ⟨rfl, rfl⟩ := h; exact ⟨rfl, hu⟩
  have plain : (∀ w, (eqGuard op ty x y (a.eval x) (a.eval y)).run C.P w = .ok () w) → M.bnd (binA C op ty p q) (fun v => .ok (v, s)) = .ok (v, s') → s' = s ∧ ∃ v', VRel σ D v v' ∧ PureAt C.P o a v' := fun hg h => by
    obtain ⟨h1, h2⟩ := close (u := v) (f := fun v => .ok (v, s)) h
    exact ⟨h1, guard hg h2⟩
  split at h
  · have e1 := hx.nilI
    have e2 := hy.nilI
    split at h
    · exact plain (fun w => by rw [e1, e2]; exact guard_const (.inl ⟨_, rfl⟩) w) h
    · exact plain (fun w => by rw [e1, e2]; exact guard_const (.inr ⟨_, rfl⟩) w) h
    · simp at h
  · obtain ⟨xa, e1, _⟩ := hx.agg_inv
    obtain ⟨ya, e2, _⟩ := hy.agg_inv
    split at h
    · rename_i hgt
      exact plain (fun w => by rw [e1, e2]; exact guard_agg hgt w) h
    · simp at h
  · rename_i n1 n2
    refine plain (guard_other ?_ ?_) h
    · rintro xs ys ⟨e1, e2⟩
      rw [e1] at hx; rw [e2] at hy
      cases hx with
      | flat h => simp [X.flat] at h
      | agg _ _ =>
        cases hy with
        | flat h => simp [X.flat] at h
        | agg _ _ => exact n2 _ _ rfl rfl
    · rintro ⟨e1, e2⟩
      rw [e1] at hx; rw [e2] at hy
      cases hx; cases hy
      exact n1 rfl rfl
omit ok in
theorem pure_unOp {op : UnOp} {ty : TypeId} {x : Operand} (ho : o.op = .unOp op ty x) (h : simpleA C s ρ (.unOp op ty x) = .ok (v, s')) : s' = s ∧ ∃ v', VRel σ D v v' ∧ PureAt C.P o a v' := by
  obtain ⟨p, hp, h⟩ := bnd_ok.1 h
  have hx := he x _ hp
  have hop : (execOp a.eval o) = (do pure (Next.value (← Op.unary op (a.eval x)))) := by simp only [execOp, ho]
  cases p with
  | bool b =>
    cases op <;> simp at h
    obtain ⟨rfl, rfl⟩ := h
    exact ⟨rfl, _, .flat rfl, fun w => by rw [hop, hx.bool]; simp [Op.unary]⟩
  | int k n =>
    simp only [] at h
    obtain ⟨u, hu, h⟩ := bnd_ok.1 h
    simp at h; obtain ⟨rfl, rfl⟩ := h
    obtain ⟨u1, hu1, hu2⟩ := bnd_ok.1 hu
    obtain ⟨rfl, hf⟩ := constA_ok hu2
    exact ⟨rfl, _, .flat hf, fun w => by rw [hop, hx.int]; simp [runPure_ok hu1 w]⟩
  | _ => simp at h
theorem pure_makeInterface {ty : TypeId} {x : Operand} (ho : o.op = .makeInterface ty x) (h : simpleA C s ρ (.makeInterface ty x) = .ok (v, s')) : s' = s ∧ ∃ v', VRel σ D v v' ∧ PureAt C.P o a v' := by
  obtain ⟨d, hd, h⟩ := bnd_ok.1 h
  have hop : (execOp a.eval o) = (do pure (Next.value (← Instr.makeInterface ty (a.eval x)))) := by simp only [execOp, ho]
  have hr := run_und ok hd
  cases d <;> simp only [] at h <;> try (simp at h; done)
  all_goals
    obtain ⟨u, hu, h⟩ := bnd_ok.1 h
    simp at h; obtain ⟨rfl, rfl⟩ := h
    exact ⟨rfl, _, .iface (he x _ hu), fun w => by rw [hop]; simp [Instr.makeInterface, hr]⟩
omit ok in
theorem pure_makeFunc {fn : Fn} {first cap : Array Operand} (ho : o.op = .makeFunc fn first cap) (h : simpleA C s ρ (.makeFunc fn first cap) = .ok (v, s')) : s' = s ∧ ∃ v', VRel σ D v v' ∧ PureAt C.P o a v' := by
  have hop : (execOp a.eval o) = (do pure (Next.value (← Instr.makeFunc fn (first.map a.eval) (cap.map a.eval)))) := by simp only [execOp, ho]
  obtain ⟨f, rfl⟩ : ∃ f, fn = .func f := by
    cases fn with
    | func f => exact ⟨f, rfl⟩
    | _ => simp [simpleA] at h
  simp only [simpleA] at h
  obtain ⟨fs, hfs, h⟩ := bnd_ok.1 h
  obtain ⟨cs, hcs, h⟩ := bnd_ok.1 h
  simp at h; obtain ⟨rfl, rfl⟩ := h
  have l1 := args_ok he hfs
  have l2 := args_ok he hcs
  refine ⟨rfl, .func (.func f) (first.map a.eval) (cap.map a.eval), ?_, fun w => by rw [hop]; simp [Instr.makeFunc]⟩
  refine .func (by simpa using l1.len) (fun i v v' h1 h2 => l1.arr i v v' h1 ?_) (by simpa using l2.len) (fun i v v' h1 h2 => l2.arr i v v' h1 ?_)
  · simpa using h2
  · simpa using h2
theorem pure_fieldAddr {ty : TypeId} {x : Operand} {f : Nat} (ho : o.op = .fieldAddr ty x f) (h : simpleA C s ρ (.fieldAddr ty x f) = .ok (v, s')) : s' = s ∧ ∃ v', VRel σ D v v' ∧ PureAt C.P o a v' := by
  obtain ⟨p, hp, h⟩ := bnd_ok.1 h
  have hx := he x _ hp
  have hop : (execOp a.eval o) = (do pure (Next.value (← Instr.fieldAt ty (a.eval x) f))) := by simp only [execOp, ho]
  cases p with
  | pointer p =>
    cases p with
    | none => simp at h
    | some p =>
      simp only [] at h
      obtain ⟨fd, hfd, h⟩ := bnd_ok.1 h
      obtain ⟨n, hn, h⟩ := bnd_ok.1 h
      obtain ⟨h1, h2, h3⟩ := hx.ptr_inv
      rw [h1] at h
      cases hb : Nat.beq n 0 with
      | true => rw [hb] at h; simp at h
      | false =>
        rw [hb] at h
        simp at h; obtain ⟨rfl, rfl⟩ := h
        have hn0 : n ≠ 0 := fun e => by subst e; simp [Nat.beq] at hb
        unfold fieldOf at hfd
        obtain ⟨d, hd, hfd⟩ := bnd_ok.1 hfd
        cases d <;> simp only [] at hfd <;> try (simp at hfd; done)
        have hfd := some_ok.1 hfd
        refine ⟨rfl, .pointer (some ⟨(σ p.block).blk, p.off + fd.offset, none⟩), ?_, fun w => ?_⟩
        · have : addr p fd.offset = ⟨p.block, p.off + fd.offset, none⟩ := by simp [addr, h1]
          rw [this]; exact .ptr h2
        · rw [hop, h3]
          simp [Instr.fieldAt, run_und ok hd, hfd, Instr.sureAddr, fieldPlace, run_size ok hn, hn0, addr_add]
  | _ => simp at h
theorem pure_field {ty : TypeId} {x : Operand} {f : Nat} (ho : o.op = .field ty x f) (h : simpleA C s ρ (.field ty x f) = .ok (v, s')) : s' = s ∧ ∃ v', VRel σ D v v' ∧ PureAt C.P o a v' := by
  obtain ⟨p, hp, h⟩ := bnd_ok.1 h
  have hx := he x _ hp
  have hop : (execOp a.eval o) = (do pure (Next.value (← Instr.field ty (a.eval x) f))) := by simp only [execOp, ho]
  cases p with
  | agg cs =>
    simp only [] at h
    obtain ⟨fd, hfd, h⟩ := bnd_ok.1 h
    obtain ⟨u, hu, h⟩ := bnd_ok.1 h
    simp at h; obtain ⟨rfl, rfl⟩ := h
    obtain ⟨a', h1, h2⟩ := hx.agg_inv
    obtain ⟨v', h3, h4⟩ := part_ok ok hu h2
    unfold fieldOf at hfd
    obtain ⟨d, hd, hfd⟩ := bnd_ok.1 hfd
    cases d <;> simp only [] at hfd <;> try (simp at hfd; done)
    have hfd := some_ok.1 hfd
    refine ⟨rfl, v', h3, fun w => ?_⟩
    rw [hop, h1]
    simp [Instr.field, run_und ok hd, hfd, asAgg, h4]
  | _ => simp at h
theorem pure_indexAddr {ty : TypeId} {x ix : Operand} (ho : o.op = .indexAddr ty x ix) (h : simpleA C s ρ (.indexAddr ty x ix) = .ok (v, s')) : s' = s ∧ ∃ v', VRel σ D v v' ∧ PureAt C.P o a v' := by
  obtain ⟨iv, hiv, h⟩ := bnd_ok.1 h
  obtain ⟨i, hi, h⟩ := bnd_ok.1 h
  obtain ⟨j, hj, h⟩ := bnd_ok.1 h
  obtain ⟨p, hp, h⟩ := bnd_ok.1 h
  obtain ⟨d, hd, h⟩ := bnd_ok.1 h
  have hx := he x _ hp
  have hix := he ix _ hiv
  have hop : (execOp a.eval o) = (do pure (Next.value (← Instr.indexAt ty (a.eval x) (a.eval ix)))) := by simp only [execOp, ho]
  obtain ⟨k, rfl⟩ := asI_ok hi
  have hj := natOf_ok hj
  subst hj
  rw [hix.int] at hop
  cases d with
  | array len elem =>
    simp only [] at h
    cases p with
    | pointer p =>
      cases p with
      | none => simp at h
      | some p =>
        simp only [] at h
        obtain ⟨h1, h2, h3⟩ := hx.ptr_inv
        rw [h1] at h
        cases hb : Nat.blt j len with
        | false => rw [hb] at h; simp at h
        | true =>
          rw [hb] at h
          simp only [] at h
          obtain ⟨n, hn, h⟩ := bnd_ok.1 h
          simp at h; obtain ⟨rfl, rfl⟩ := h
          rw [blt_nat] at hb
          simp only [decide_eq_true_eq] at hb
          refine ⟨rfl, .pointer (some ⟨(σ p.block).blk, p.off + j * n, none⟩), ?_, fun w => ?_⟩
          · have : ∀ k, addr p k = ⟨p.block, p.off + k, none⟩ := fun k => by simp [addr, h1]
            rw [this]; exact .ptr h2
          · rw [hop, h3]
            simp only [Instr.indexAt, asIntOf, Sem.run_bind, Sem.run_pure, Result.andThen_ok, run_und ok hd, Instr.sureAddr, Int.natCast_nonneg, true_and, Int.ofNat_lt, hb, if_true, run_size ok hn, Int.toNat_natCast, addr_add]
    | _ => simp at h
  | slice elem =>
    simp only [] at h
    cases p with
    | slice p len c =>
      cases p with
      | none => simp at h
      | some p =>
        simp only [] at h
        obtain ⟨h1, h2, h3⟩ := hx.slice_inv
        rw [h1] at h
        cases hb : Nat.blt j len with
        | false => rw [hb] at h; simp at h
        | true =>
          rw [hb] at h
          simp only [] at h
          obtain ⟨n, hn, h⟩ := bnd_ok.1 h
          simp at h; obtain ⟨rfl, rfl⟩ := h
          rw [blt_nat] at hb
          simp only [decide_eq_true_eq] at hb
          refine ⟨rfl, .pointer (some ⟨(σ p.block).blk, p.off + j * n, none⟩), ?_, fun w => ?_⟩
          · have : ∀ k, addr p k = ⟨p.block, p.off + k, none⟩ := fun k => by simp [addr, h1]
            rw [this]; exact .ptr h2
          · rw [hop]
            rcases h3 with ⟨_, h3⟩ | ⟨_, _, c', _, _, h3⟩ | ⟨_, h4, _⟩
            · rw [h3]
              simp only [Instr.indexAt, asIntOf, Sem.run_bind, Sem.run_pure, Result.andThen_ok, run_und ok hd, Int.natCast_nonneg, true_and, Int.ofNat_lt, hb, if_true, run_size ok hn, Int.toNat_natCast, addr_add]
            · rw [h3]
              simp only [Instr.indexAt, asIntOf, Sem.run_bind, Sem.run_pure, Result.andThen_ok, run_und ok hd, Int.natCast_nonneg, true_and, Int.ofNat_lt, hb, if_true, run_size ok hn, Int.toNat_natCast, addr_add]
            · omega
    | _ => simp at h
  | _ => simp at h
theorem pure_index {ty : TypeId} {x ix : Operand} (ho : o.op = .index ty x ix) (h : simpleA C s ρ (.index ty x ix) = .ok (v, s')) : s' = s ∧ ∃ v', VRel σ D v v' ∧ PureAt C.P o a v' := by
  obtain ⟨iv, hiv, h⟩ := bnd_ok.1 h
  obtain ⟨i, hi, h⟩ := bnd_ok.1 h
  obtain ⟨j, hj, h⟩ := bnd_ok.1 h
  obtain ⟨p, hp, h⟩ := bnd_ok.1 h
  obtain ⟨d, hd, h⟩ := bnd_ok.1 h
  have hx := he x _ hp
  have hix := he ix _ hiv
  have hop : (execOp a.eval o) = (do pure (Next.value (← Instr.index ty (a.eval x) (a.eval ix)))) := by simp only [execOp, ho]
  obtain ⟨k, rfl⟩ := asI_ok hi
  have hj := natOf_ok hj
  subst hj
  rw [hix.int] at hop
  cases d with
  | array len elem =>
    simp only [] at h
    cases p with
    | agg cs =>
      simp only [] at h
      cases hb : Nat.blt j len with
      | false => rw [hb] at h; simp at h
      | true =>
        rw [hb] at h
        simp only [] at h
        obtain ⟨n, hn, h⟩ := bnd_ok.1 h
        obtain ⟨u, hu, h⟩ := bnd_ok.1 h
        simp at h; obtain ⟨rfl, rfl⟩ := h
        rw [blt_nat] at hb
        simp only [decide_eq_true_eq] at hb
        obtain ⟨a', h1, h2⟩ := hx.agg_inv
        obtain ⟨v', h3, h4⟩ := part_ok ok hu h2
        refine ⟨rfl, v', h3, fun w => ?_⟩
        rw [hop, h1]
        simp only [Instr.index, asIntOf, Sem.run_bind, Sem.run_pure, Result.andThen_ok, run_und ok hd, Int.natCast_nonneg, true_and, Int.ofNat_lt, hb, if_true, run_size ok hn, Int.toNat_natCast, h4]
    | _ => simp at h
  | string =>
    simp only [] at h
    cases p with
    | string b =>
      simp only [] at h
      split at h
      · rename_i c hc
        simp at h; obtain ⟨rfl, rfl⟩ := h
        refine ⟨rfl, _, .flat rfl, fun w => ?_⟩
        rw [hop, hx.string]
        have hlt : j < b.data.toList.length := (List.getElem?_eq_some_iff.1 hc).1
        have hc' := (List.getElem?_eq_some_iff.1 hc).2
        have hsz : j < b.size := by simpa using hlt
        have hb : b[j]? = some c := by
          rw [ByteArray.getElem?_lt' b _ hsz]
          congr 1
        simp only [Instr.index, asIntOf, Sem.run_bind, Sem.run_pure, Result.andThen_ok, run_und ok hd, Int.natCast_nonneg, if_true, Int.toNat_natCast, hb]
      · simp at h
    | _ => simp at h
  | _ => simp at h
omit ok in
theorem pure_extract {x : Operand} {i : Nat} (ho : o.op = .extract x i) (h : simpleA C s ρ (.extract x i) = .ok (v, s')) : s' = s ∧ ∃ v', VRel σ D v v' ∧ PureAt C.P o a v' := by
  obtain ⟨p, hp, h⟩ := bnd_ok.1 h
  have hx := he x _ hp
  have hop : (execOp a.eval o) = (do pure (Next.value (← Instr.extract (a.eval x) i))) := by simp only [execOp, ho]
  cases p with
  | tuple vs =>
    simp only [] at h
    obtain ⟨u, hu, h⟩ := bnd_ok.1 h
    simp at h; obtain ⟨rfl, rfl⟩ := h
    obtain ⟨a', h1, h2⟩ := hx.tuple_inv
    obtain ⟨v', h3, h4⟩ := h2.get i _ (some_ok.1 hu)
    refine ⟨rfl, v', h4, fun w => ?_⟩
    have h3' : a'[i]? = some v' := by simpa using h3
    rw [hop, h1]
    simp [Instr.extract, h3']
  | _ => simp at h
theorem pure_typeAssert {x : Operand} {xt ty : TypeId} {b : Bool} (ho : o.op = .typeAssert x xt ty b) (h : simpleA C s ρ (.typeAssert x xt ty b) = .ok (v, s')) : s' = s ∧ ∃ v', VRel σ D v v' ∧ PureAt C.P o a v' := by
  obtain ⟨d, hd, h⟩ := bnd_ok.1 h
  obtain ⟨p, hp, h⟩ := bnd_ok.1 h
  have hx := he x _ hp
  have hr := run_und ok hd
  have hop : (execOp a.eval o) = (do pure (Next.value (← Instr.typeAssert (a.eval x) xt ty b))) := by simp only [execOp, ho]
  have holds : ∀ {u u' : Value}, VRel σ D u u' → (match b with | true => (Except.ok (Value.tuple #[u, .bool true], s) : M (Value × St)) | false => .ok (u, s)) = .ok (v, s') →
      s' = s ∧ VRel σ D v (if b then .tuple #[u', .bool true] else u') := by
    intro u u' hu h
    cases b with
    | true =>
      simp at h; obtain ⟨rfl, rfl⟩ := h
      exact ⟨rfl, LRel.tup (l := [u, .bool true]) (r := [u', .bool true]) ⟨hu, .flat rfl, trivial⟩⟩
    | false => simp at h; obtain ⟨rfl, rfl⟩ := h; exact ⟨rfl, hu⟩
  have fails : (match b with | true => M.bnd (zeroOf C ty) fun z => Except.ok (Value.tuple #[z, .bool false], s) | false => (.error "type assertion" : M (Value × St))) = .ok (v, s') →
      s' = s ∧ b = true ∧ ∃ z, zeroOf C ty = .ok z ∧ VRel σ D v (.tuple #[z, .bool false]) := by
    intro h
    cases b with
    | true =>
      obtain ⟨z, hz, h⟩ := bnd_ok.1 h
      simp at h; obtain ⟨rfl, rfl⟩ := h
      obtain ⟨_, _, _, hf⟩ := zeroOf_ok ok hz
      exact ⟨rfl, rfl, z, hz, LRel.tup (l := [z, .bool false]) (r := [z, .bool false]) ⟨zero_rel hf, .flat rfl, trivial⟩⟩
    | false => simp at h
  cases p with
  | nilIface =>
    obtain ⟨h1, rfl, z, hz, h2⟩ := fails h
    refine ⟨h1, _, h2, fun w => ?_⟩
    rw [hop, hx.nilI]
    cases d <;> simp [Instr.typeAssert, hr, run_zero ok hz]
  | iface tx u =>
    obtain ⟨u', h1, h2⟩ := hx.iface_inv
    by_cases hi : ∃ want, d = .interface want
    · obtain ⟨want, rfl⟩ := hi
      simp only [] at h
      obtain ⟨i, hi, h⟩ := bnd_ok.1 h
      cases hm : Instr.missingMethod want i.methods with
      | none =>
        rw [hm] at h
        obtain ⟨h3, h4⟩ := holds (u := .iface tx u) (u' := .iface tx u') (.iface h2) h
        refine ⟨h3, _, h4, fun w => ?_⟩
        rw [hop, h1]
        simp [Instr.typeAssert, hr, run_info ok hi, hm]
      | some m =>
        rw [hm] at h
        obtain ⟨h3, rfl, z, hz, h4⟩ := fails h
        refine ⟨h3, _, h4, fun w => ?_⟩
        rw [hop, h1]
        simp [Instr.typeAssert, hr, run_info ok hi, hm, run_zero ok hz]
    · have h' : (match Nat.beq tx ty with | true => (match b with | true => (Except.ok (Value.tuple #[u, .bool true], s) : M (Value × St)) | false => .ok (u, s)) | false => (match b with | true => M.bnd (zeroOf C ty) fun z => Except.ok (Value.tuple #[z, .bool false], s) | false => (.error "type assertion" : M (Value × St)))) = .ok (v, s') := by
        cases d <;> first | exact h | exact absurd ⟨_, rfl⟩ hi
      by_cases e : tx = ty
      · have : Nat.beq tx ty = true := by rw [beq_nat]; simp [e]
        rw [this] at h'
        obtain ⟨h3, h4⟩ := holds h2 h'
        refine ⟨h3, _, h4, fun w => ?_⟩
        rw [hop, h1]
        cases d <;> first | exact absurd ⟨_, rfl⟩ hi | simp [Instr.typeAssert, hr, e]
      · have : Nat.beq tx ty = false := by rw [beq_nat]; simp [e]
        rw [this] at h'
        obtain ⟨h3, rfl, z, hz, h4⟩ := fails h'
        refine ⟨h3, _, h4, fun w => ?_⟩
        rw [hop, h1]
        cases d <;> first | exact absurd ⟨_, rfl⟩ hi | simp [Instr.typeAssert, hr, e, run_zero ok hz]
  | _ => simp at h
end
end Go.Proofs.YtoddlefhlicfiaaGreatDoorR.X

/- The executor's slices, conversions, lengths and reads are the model's. -/
set_option linter.unusedSimpArgs false
set_option linter.unusedVariables false
namespace Go.Proofs.YtoddlefhlicfiaaGreatDoorR.X
open Go

/-- what an operation comes to in a world that it leaves as it is -/
def ReadAt (P : Program) (o : Oper) (a : Act) (w : World) (v : Value) : Prop := (execOp a.eval o).run P w = .ok (.value v) w

section
variable {C : Cx} (ok : CxOk C) {B : Nat} {σ : Sg} {D : Nat → Prop} {ρ : Operand → M Value} {a : Act} (he : ERel σ D ρ a) {o : Oper} {s s' : St} {v : Value}

/-- cells of a block -/
theorem loadCells_ok {P : Program} {w : World} {b o n : Nat} {cc : Array Value} {e : TypeId} {fz : Nat × Nat} (hb : w.heap[b]? = some (.cells cc e fz)) (hn : o + n ≤ cc.size) :
    (loadCells ⟨b, o, none⟩ n).run P w = .ok ((cc.toList.drop o).take n).toArray w := by
  have hlen : ((cc.toList.drop o).take n).length = n := by simp; omega
  have := run_loadCells_list (P := P) w ⟨b, o, none⟩ ((cc.toList.drop o).take n) (fun j v hv => by
    rw [addr_add]
    have hj : j < n := by have := (List.getElem?_eq_some_iff.1 hv).1; omega
    rw [List.getElem?_take_of_lt hj, List.getElem?_drop] at hv
    simp only [World.cell?, hb]
    simpa using hv)
  rwa [hlen] at this
include ok
theorem load_ok {w : World} (h : HRel C B σ s w) {ty : TypeId} {p : Addr} (hl : loadA C s ty p = .ok v) : p.spot = none ∧ p.block < s.nx ∧ ∃ v', VRel σ (· < s.nx) v v' ∧ (loadVar ty ⟨(σ p.block).blk, p.off, none⟩).run C.P w = .ok v' w := by
  unfold loadA at hl
  cases hp : p.spot with
  | some _ => rw [hp] at hl; simp at hl
  | none =>
    rw [hp] at hl
    simp only [] at hl
    obtain ⟨b, hb, hl⟩ := bnd_ok.1 hl
    obtain ⟨g, hg, hl⟩ := bnd_ok.1 hl
    obtain ⟨_, _, hlt, _, cc, fz, h2, h3, _⟩ := h.rd hb
    refine ⟨rfl, hlt, ?_⟩
    cases g with
    | true =>
      obtain ⟨n, hn, hl⟩ := bnd_ok.1 hl
      obtain ⟨l, hr, hl⟩ := bnd_ok.1 hl
      injection hl with hl; subst hl
      obtain ⟨h4, h5⟩ := h3.range hr
      refine ⟨_, h4.agg, ?_⟩
      simp only [loadVar, Sem.run_bind, run_isAgg ok hg, Result.andThen_ok, if_true, run_size ok hn, loadCells_ok (P := C.P) h2 (by simpa using h5), Sem.run_pure]
    | false =>
      obtain ⟨v', h4, h5⟩ := h3.get _ _ (some_ok.1 hl)
      refine ⟨v', h5, ?_⟩
      have : w.cell? ⟨(σ p.block).blk, p.off, none⟩ = some v' := by simp only [World.cell?, h2]; simpa using h4
      simp [loadVar, run_isAgg ok hg, this]
include he
theorem read_load {w : World} (h : HRel C B σ s w) {ty : TypeId} {x : Operand} (ho : o.op = .load ty x) (hs : simpleA C s ρ (.load ty x) = .ok (v, s')) : s' = s ∧ ∃ v', VRel σ (· < s.nx) v v' ∧ ReadAt C.P o a w v' := by
  obtain ⟨p, hp, hs⟩ := bnd_ok.1 hs
  have hx := he x _ hp
  cases p with
  | pointer p =>
    cases p with
    | none => simp at hs
    | some p =>
      simp only [] at hs
      obtain ⟨u, hu, hs⟩ := bnd_ok.1 hs
      simp at hs; obtain ⟨rfl, rfl⟩ := hs
      obtain ⟨_, _, v', h1, h2⟩ := load_ok ok h hu
      refine ⟨rfl, v', h1, ?_⟩
      unfold ReadAt
      simp [execOp, ho, hx.ptr_inv.2.2, Instr.loadAt, Instr.sureAddr, h2]
  | _ => simp at hs

omit ok he in
theorem inB_ok {i : Int} {n m : Nat} (h : inB i n = .ok m) : i = (m : Int) ∧ m ≤ n := by
  cases i with
  | ofNat k =>
    simp only [inB] at h
    cases hb : Nat.ble k n with
    | false => rw [hb] at h; simp at h
    | true => rw [hb] at h; simp at h; subst h; exact ⟨rfl, Nat.le_of_ble_eq_true hb⟩
  | negSucc k => simp [inB] at h
omit ok he in
theorem bound_ok {P : Program} {u u' : Value} {i : Int} {n m k : Nat} (ha : asI u = .ok i) (hb : inB i n = .ok m) (hv : VRel σ D u u') (hn : n ≤ k) (code : BoundsCode) (w : World) : (Instr.sliceBound u' k code).run P w = .ok m w ∧ m ≤ n := by
  obtain ⟨kd, rfl⟩ := asI_ok ha
  obtain ⟨rfl, h2⟩ := inB_ok hb
  rw [hv.int]
  have : (m : Int) ≤ (k : Int) := by omega
  exact ⟨by simp [Instr.sliceBound, asIntOf, this], h2⟩
omit ok he in
theorem opt_rel {x : Option Value} {x' : Option Value} (h : (x = none ∧ x' = none) ∨ ∃ u u', x = some u ∧ x' = some u' ∧ VRel σ D u u') : True := trivial
/-- optional operands -/
def ORelV (σ : Sg) (D : Nat → Prop) : Option Value → Option Value → Prop
  | none, none => True
  | some u, some u' => VRel σ D u u'
  | _, _ => False
omit ok in
theorem optA_ok {x : Option Operand} {r : Option Value} (h : optA ρ x = .ok r) : ORelV σ D r (x.map a.eval) := by
  cases x with
  | none => simp [optA] at h; subst h; exact trivial
  | some x => obtain ⟨u, hu, h⟩ := bnd_ok.1 h; injection h with h; subst h; exact he x u hu
omit ok he in
/-- the three bounds of a slice, where the third is told or the capacity's end is k -/
theorem bounds_ok {P : Program} {isS : Bool} {len n k m l h : Nat} {lo hi mx lo' hi' mx' : Option Value} (h1 : ORelV σ D lo lo') (h2 : ORelV σ D hi hi') (h3 : ORelV σ D mx mx')
    (ht : thirdA n hi mx = .ok m) (hb : boundsA len m lo hi = .ok (l, h)) (hk : n ≤ k) (hlen : hi = none → True) (w : World) :
    (Instr.sliceBounds isS len k lo' hi' mx').run P w = .ok (l, h, if mx.isSome then m else k) w ∧ l ≤ h ∧ (h ≤ m ∨ h = len) ∧ (mx.isSome = true → m ≤ n) ∧ (mx = none → m = n) := by
  obtain ⟨hh, e1, hb⟩ := bnd_ok.1 hb
  obtain ⟨ll, e2, hb⟩ := bnd_ok.1 hb
  injection hb with hb
  injection hb with hb1 hb2
  subst hb1; subst hb2
  -- the low bound, once the high one stands
  have low : ∀ (code : BoundsCode), ((match lo' with | some v => Instr.sliceBound v hh code | none => pure 0 : Sem Nat).run P w = .ok ll w) ∧ ll ≤ hh := by
    intro code
    cases lo with
    | none =>
      cases lo' with
      | none => simp [optI] at e2; subst e2; simp
      | some _ => exact h1.elim
    | some u =>
      cases lo' with
      | none => exact h1.elim
      | some u' =>
        obtain ⟨i, hi1, e2⟩ := bnd_ok.1 e2
        exact bound_ok hi1 e2 h1 (Nat.le_refl _) code w
  cases mx with
  | some u =>
    cases mx' with
    | none => exact h3.elim
    | some u' =>
      cases hi with
      | none => simp [thirdA] at ht
      | some q =>
        cases hi' with
        | none => exact h2.elim
        | some q' =>
          simp only [thirdA] at ht
          obtain ⟨i, hi1, ht⟩ := bnd_ok.1 ht
          obtain ⟨i2, hi2, e1⟩ := bnd_ok.1 e1
          have a1 := fun code => bound_ok (P := P) hi1 ht h3 hk code w
          have a2 := fun code => bound_ok (P := P) hi2 e1 h2 (Nat.le_refl _) code w
          refine ⟨?_, (low .sliceB).2, .inl (a2 .sliceB).2, fun _ => (a1 .sliceB).2, fun e => by cases e⟩
          simp only [Instr.sliceBounds, Sem.run_bind, (a1 _).1, (a2 _).1, Result.andThen_ok, Option.isSome_some, if_true]
          have := (low .slice3C).1
          cases lo' with
          | none => simp at this; subst this; simp
          | some _ => simp only [] at this; simp [this]
  | none =>
    cases mx' with
    | some _ => exact h3.elim
    | none =>
      simp only [thirdA] at ht
      injection ht with ht; subst ht
      cases hi with
      | none =>
        cases hi' with
        | some _ => exact h2.elim
        | none =>
          simp [optI] at e1; subst e1
          refine ⟨?_, (low .sliceB).2, .inr rfl, (fun h => by simp at h), fun _ => rfl⟩
          have := (low .sliceB).1
          cases lo' with
          | none => simp at this; subst this; simp [Instr.sliceBounds]
          | some _ => simp only [] at this; simp [Instr.sliceBounds, this]
      | some q =>
        cases hi' with
        | none => exact h2.elim
        | some q' =>
          obtain ⟨i2, hi2, e1⟩ := bnd_ok.1 e1
          have a2 := fun code => bound_ok (P := P) hi2 e1 h2 hk code w
          refine ⟨?_, (low .sliceB).2, .inl (a2 .sliceB).2, (fun h => by simp at h), fun _ => rfl⟩
          have := (low .sliceB).1
          cases lo' with
          | none => simp at this; subst this; simp [Instr.sliceBounds, (a2 _).1]
          | some _ => simp only [] at this; simp [Instr.sliceBounds, (a2 _).1, this]

omit he in
theorem slice_ok {ty : TypeId} {x x' : Value} {lo hi mx lo' hi' mx' : Option Value} (hx : VRel σ D x x') (h1 : ORelV σ D lo lo') (h2 : ORelV σ D hi hi') (h3 : ORelV σ D mx mx') (h : sliceA C ty x lo hi mx = .ok v) :
    ∃ v', VRel σ D v v' ∧ ∀ w, (Instr.sliceAt ty x' lo' hi' mx').run C.P w = .ok v' w := by
  unfold sliceA at h
  obtain ⟨d, hd, h⟩ := bnd_ok.1 h
  have hr := run_und ok hd
  cases d with
  | string =>
    simp only [] at h
    cases x with
    | string b =>
      cases mx with
      | some _ => simp at h
      | none =>
        cases mx' with
        | some _ => exact h3.elim
        | none =>
          simp only [] at h
          obtain ⟨⟨l, hh⟩, hb, h⟩ := bnd_ok.1 h
          injection h with h; subst h
          refine ⟨_, .flat rfl, fun w => ?_⟩
          obtain ⟨k1, k2, k3, _, _⟩ := bounds_ok (P := C.P) (isS := false) (mx := none) (mx' := none) (n := b.size) (k := b.size) h1 h2 trivial rfl hb (Nat.le_refl _) (fun _ => trivial) w
          rw [hx.string]
          simp only [Instr.sliceAt, Instr.slice, Sem.run_bind, hr, Result.andThen_ok, Option.isSome_none, Bool.false_eq_true, if_false, k1, Sem.run_pure, Sem.run_ite]
          congr 2
          apply ByteArray.ext
          rw [ByteArray.data_extract]
          apply Array.ext'
          simp [List.extract_eq_take_drop, bytesL]
    | _ => simp at h
  | array n elem =>
    simp only [] at h
    cases x with
    | pointer p =>
      cases p with
      | none => simp at h
      | some p =>
        simp only [] at h
        obtain ⟨m, hm, h⟩ := bnd_ok.1 h
        obtain ⟨⟨l, hh⟩, hb, h⟩ := bnd_ok.1 h
        obtain ⟨z, hz, h⟩ := bnd_ok.1 h
        obtain ⟨e1, e2, e3⟩ := hx.ptr_inv
        cases hn : Nat.blt n UNK with
        | false => simp only [hn] at h; simp at h
        | true =>
          simp only [hn] at h
          rw [blt_nat] at hn
          simp only [decide_eq_true_eq] at hn
          have hmn : m ≤ n := by
            cases mx with
            | none => simp [thirdA] at hm; omega
            | some u =>
              cases hi with
              | none => simp [thirdA] at hm
              | some q => obtain ⟨i, _, hm⟩ := bnd_ok.1 hm; exact (inB_ok hm).2
          have hmm : (if mx.isSome = true then m else n) = m := by
            cases mx with
            | none => simp [thirdA] at hm; simp [hm]
            | some u => simp
          have run : ∀ w, (Instr.sliceAt ty x' lo' hi' mx').run C.P w = .ok (.slice (some (if m = l then ⟨(σ p.block).blk, p.off, none⟩ else ⟨(σ p.block).blk, p.off + l * z, none⟩)) (hh - l) (m - l)) w := by
            intro w
            obtain ⟨k1, k2, k3, _, _⟩ := bounds_ok (P := C.P) (isS := false) (n := n) (k := n) h1 h2 h3 hm hb (Nat.le_refl _) (fun _ => trivial) w
            rw [hmm] at k1
            rw [e3]
            simp only [Instr.sliceAt, Sem.run_bind, hr, Result.andThen_ok, Instr.sureAddr, Sem.run_pure, k1, run_size ok hz, addr_add]
          by_cases e : m = l
          · have hbq : Nat.beq m l = true := by rw [beq_nat]; simp [e]
            rw [hbq] at h; injection h with h; subst h
            refine ⟨_, ?_, run⟩
            rw [if_pos e]
            have := VRel.slice (σ := σ) (D := D) (b := p.block) (o := p.off) (l := hh - l) (c := m - l) e2 (by omega)
            have ep : p = ⟨p.block, p.off, none⟩ := by cases p; simp_all
            rw [ep]; exact this
          · have hbq : Nat.beq m l = false := by rw [beq_nat]; simp [e]
            rw [hbq] at h; injection h with h; subst h
            refine ⟨_, ?_, run⟩
            rw [if_neg e]
            have ep : addr p (l * z) = ⟨p.block, p.off + l * z, none⟩ := by simp [addr, e1]
            rw [ep]; exact .slice e2 (by omega)
    | _ => simp at h
  | slice elem =>
    simp only [] at h
    have hgo : ∀ w, (Instr.sliceAt ty x' lo' hi' mx').run C.P w = (Instr.slice ty x' lo' hi' mx').run C.P w := fun w => by simp only [Instr.sliceAt, Sem.run_bind, hr, Result.andThen_ok]
    cases x with
    | slice p len cap =>
      cases p with
      | none =>
        simp only [] at h
        cases hn : Nat.blt cap UNK with
        | false => rw [hn] at h; simp at h
        | true =>
          rw [hn] at h
          simp only [] at h
          obtain ⟨m, hm, h⟩ := bnd_ok.1 h
          obtain ⟨⟨l, hh⟩, hb, h⟩ := bnd_ok.1 h
          obtain ⟨z, hz, h⟩ := bnd_ok.1 h
          injection h with h; subst h
          have hmm : (if mx.isSome = true then m else cap) = m := by
            cases mx with
            | none => simp [thirdA] at hm; simp [hm]
            | some u => simp
          refine ⟨_, .flat rfl, fun w => ?_⟩
          obtain ⟨k1, k2, k3, _, _⟩ := bounds_ok (P := C.P) (isS := true) (n := cap) (k := cap) h1 h2 h3 hm hb (Nat.le_refl _) (fun _ => trivial) w
          rw [hmm] at k1
          rw [hgo, hx.nilS]
          simp only [Instr.slice, Sem.run_bind, hr, Result.andThen_ok, k1, run_size ok hz, Sem.run_pure]
          simp
      | some p =>
        simp only [] at h
        obtain ⟨z, hz, h⟩ := bnd_ok.1 h
        obtain ⟨e1, e2, e3⟩ := hx.slice_inv
        have ep : p = ⟨p.block, p.off, none⟩ := by cases p; simp_all
        have ea : ∀ k, addr p k = ⟨p.block, p.off + k, none⟩ := fun k => by simp [addr, e1]
        -- the model's run, at whatever address and capacity
        have run : ∀ (o' c' m l hh : Nat) (w : World), (Instr.sliceBounds true len c' lo' hi' mx').run C.P w = .ok (l, hh, m) w → x' = .slice (some ⟨(σ p.block).blk, o', none⟩) len c' →
            (Instr.sliceAt ty x' lo' hi' mx').run C.P w = .ok (.slice (some (if m = l then ⟨(σ p.block).blk, o', none⟩ else ⟨(σ p.block).blk, o' + l * z, none⟩)) (hh - l) (m - l)) w := by
          intro o' c' m l hh w k1 ex
          rw [hgo, ex]
          simp only [Instr.slice, Sem.run_bind, hr, Result.andThen_ok, k1, run_size ok hz, Sem.run_pure]
          by_cases em : m = l
          · simp [em]
          · simp [em, addr_add]
        cases hn : Nat.blt cap UNK with
        | true =>
          rw [hn] at h
          rw [blt_nat] at hn
          simp only [decide_eq_true_eq] at hn
          have e4 : ∃ o', x' = .slice (some ⟨(σ p.block).blk, o', none⟩) len cap ∧ (o' = p.off ∨ (len = 0 ∧ cap = 0)) := by
            rcases e3 with ⟨_, e⟩ | ⟨z', e, _⟩ | ⟨e5, e6, o', e7⟩
            · exact ⟨p.off, e, .inl rfl⟩
            · omega
            · have e8 : cap = 0 := by rcases e5 with e5 | ⟨z', e5⟩ <;> omega
              exact ⟨o', by rw [e7, e6, e8], .inr ⟨e6, e8⟩⟩
          obtain ⟨o', e3, e7⟩ := e4
          simp only [] at h
          obtain ⟨m, hm, h⟩ := bnd_ok.1 h
          obtain ⟨⟨l, hh⟩, hb, h⟩ := bnd_ok.1 h
          have hmn : m ≤ cap := by
            cases mx with
            | none => simp [thirdA] at hm; omega
            | some u =>
              cases hi with
              | none => simp [thirdA] at hm
              | some q => obtain ⟨i, _, hm⟩ := bnd_ok.1 hm; exact (inB_ok hm).2
          have hmm : (if mx.isSome = true then m else cap) = m := by
            cases mx with
            | none => simp [thirdA] at hm; simp [hm]
            | some u => simp
          have kb := bounds_ok (P := C.P) (isS := true) (n := cap) (k := cap) h1 h2 h3 hm hb (Nat.le_refl _) (fun _ => trivial) default
          have run' := fun w => run o' cap m l hh w (by
            have k1 := (bounds_ok (P := C.P) (isS := true) (n := cap) (k := cap) h1 h2 h3 hm hb (Nat.le_refl _) (fun _ => trivial) w).1
            rw [hmm] at k1; exact k1) e3
          by_cases e : m = l
          · have hbq : Nat.beq m l = true := by rw [beq_nat]; simp [e]
            simp only [hbq] at h; injection h with h; subst h
            refine ⟨_, ?_, run'⟩
            rw [if_pos e, ep]
            rcases e7 with rfl | ⟨e7, e8⟩
            · exact .slice e2 (by omega)
            · have e9 : hh = 0 := by obtain ⟨_, k2, k3, _⟩ := kb; rcases k3 with k3 | k3 <;> omega
              rw [show hh - l = 0 by omega, show m - l = 0 by omega]
              exact .sliceE e2 (.inl rfl)
          · have hbq : Nat.beq m l = false := by rw [beq_nat]; simp [e]
            simp only [hbq] at h; injection h with h; subst h
            refine ⟨_, ?_, run'⟩
            rw [if_neg e, ea]
            rcases e7 with rfl | ⟨e7, e8⟩
            · exact .slice e2 (by omega)
            · have e9 : hh = 0 := by obtain ⟨_, k2, k3, _⟩ := kb; rcases k3 with k3 | k3 <;> omega
              obtain ⟨_, k2, _⟩ := kb
              omega
        | false =>
          rw [hn] at h
          rw [blt_nat] at hn
          simp only [decide_eq_false_iff_not] at hn
          -- the capacity in the model's memory
          have e4 : ∃ o' c', x' = .slice (some ⟨(σ p.block).blk, o', none⟩) len c' ∧ len ≤ c' ∧ ((o' = p.off ∧ ∀ z', cap = UNK + z' → p.off + c' * z' ≤ (σ p.block).size) ∨ (len = 0 ∧ c' = 0)) := by
            rcases e3 with ⟨e, _⟩ | ⟨z', e, c', e5, e6, e7⟩ | ⟨e, e5, o', e6⟩
            · omega
            · refine ⟨p.off, c', e7, e5, .inl ⟨rfl, fun z2 e2 => ?_⟩⟩
              have : z2 = z' := by omega
              subst this; exact e6
            · exact ⟨o', 0, by rw [e6, e5], by omega, .inr ⟨e5, rfl⟩⟩
          obtain ⟨o', c', e5, e6, e7⟩ := e4
          cases mx with
          | some u =>
            simp only [] at h
            obtain ⟨m, hm, h⟩ := bnd_ok.1 h
            obtain ⟨⟨l, hh⟩, hb, h⟩ := bnd_ok.1 h
            have kb := fun w => bounds_ok (P := C.P) (isS := true) (n := len) (k := c') h1 h2 h3 hm hb e6 (fun _ => trivial) w
            have run' := fun w => run o' c' m l hh w (by have k1 := (kb w).1; simpa using k1) e5
            obtain ⟨_, k2, k3, k4, _⟩ := kb default
            have k4 := k4 rfl
            cases hu : Nat.blt m UNK with
            | false => simp only [hu] at h; simp at h
            | true =>
              simp only [hu] at h
              rw [blt_nat] at hu
              simp only [decide_eq_true_eq] at hu
              by_cases e : m = l
              · have hbq : Nat.beq m l = true := by rw [beq_nat]; simp [e]
                simp only [hbq] at h; injection h with h; subst h
                refine ⟨_, ?_, run'⟩
                rw [if_pos e]
                rcases e7 with ⟨rfl, _⟩ | ⟨e7, e8⟩
                · rw [ep]; exact .slice e2 (by omega)
                · have e9 : hh = 0 := by rcases k3 with k3 | k3 <;> omega
                  rw [ep, show hh - l = 0 by omega, show m - l = 0 by omega]
                  exact .sliceE e2 (.inl rfl)
              · have hbq : Nat.beq m l = false := by rw [beq_nat]; simp [e]
                simp only [hbq] at h; injection h with h; subst h
                refine ⟨_, ?_, run'⟩
                rw [if_neg e, ea]
                rcases e7 with ⟨rfl, _⟩ | ⟨e7, e8⟩
                · exact .slice e2 (by omega)
                · exfalso
                  have : m = 0 := by omega
                  have : hh = 0 := by rcases k3 with k3 | k3 <;> omega
                  omega
          | none =>
            simp only [] at h
            cases hc : Nat.beq cap (UNK + z) with
            | false => rw [hc] at h; simp at h
            | true =>
              rw [hc] at h
              have hc := Nat.eq_of_beq_eq_true hc
              simp only [] at h
              obtain ⟨⟨l, hh⟩, hb, h⟩ := bnd_ok.1 h
              injection h with h; subst h
              cases mx' with
              | some _ => exact h3.elim
              | none =>
                have kb := fun w => bounds_ok (P := C.P) (isS := true) (n := len) (k := c') (mx := none) (mx' := none) h1 h2 trivial rfl hb e6 (fun _ => trivial) w
                have run' := fun w => run o' c' c' l hh w (by have k1 := (kb w).1; simpa using k1) e5
                obtain ⟨_, k2, k3, _, _⟩ := kb default
                have k5 : hh ≤ len := by rcases k3 with k3 | k3 <;> omega
                refine ⟨_, ?_, run'⟩
                rw [ea, hc]
                by_cases e : c' = l
                · rw [if_pos e, show hh - l = 0 by omega, show c' - l = 0 by omega]
                  exact .sliceE e2 (.inr ⟨z, rfl⟩)
                · rw [if_neg e]
                  rcases e7 with ⟨rfl, e7⟩ | ⟨e7, e8⟩
                  · refine .sliceU e2 (by omega) ?_
                    have h9 := e7 z hc
                    have : c' * z = l * z + (c' - l) * z := by rw [← Nat.add_mul]; congr 1; omega
                    show p.off + l * z + (c' - l) * z ≤ _
                    omega
                  · omega
    | _ => simp at h
  | _ => simp at h
end
end Go.Proofs.YtoddlefhlicfiaaGreatDoorR.X

/- The executor's conversions, look-ups and lengths are the model's. -/
set_option linter.unusedSimpArgs false
set_option linter.unusedVariables false
namespace Go.Proofs.YtoddlefhlicfiaaGreatDoorR.X
open Go

section
variable {C : Cx} (ok : CxOk C) {B : Nat} {σ : Sg} {D : Nat → Prop} {ρ : Operand → M Value} {a : Act} (he : ERel σ D ρ a) {o : Oper} {s s' : St} {v : Value}

theorem rangeN_zero {l r : List Value} {o : Nat} (h : rangeN l o 0 = .ok r) : r = [] := by
  unfold rangeN at h
  cases hd : dropN l o with
  | none => rw [hd] at h; simp at h
  | some l1 =>
    rw [hd] at h
    have := some_ok.1 h
    cases l1 <;> simp [takeN] at this <;> exact this
theorem loadCells_zero {P : Program} (w : World) (x : Addr) : (loadCells x 0).run P w = .ok #[] w := by simp [loadCells, loadCellsFrom]
theorem ofBytes_rel (l : List UInt8) : LRel σ D (ofBytes l) (ofBytes l) :=
  LRel.of_get rfl (fun i v v' h1 h2 => by
    rw [h1] at h2; injection h2 with h2; subst h2
    simp only [ofBytes, List.getElem?_map, Option.map_eq_some_iff] at h1
    obtain ⟨b, _, rfl⟩ := h1
    exact .flat rfl)
theorem ofBytes_eq (b : ByteArray) (n : Nat) : ((b.extract 0 n).data.map fun (b : UInt8) => Value.int .u8 b.toNat) = (ofBytes ((bytesL b).take n)).toArray := by
  apply Array.ext'
  rw [ByteArray.data_extract]
  simp [ofBytes, bytesL, List.extract_eq_take_drop]
/-- what is appended or copied -/
theorem first_ok {P : Program} {w : World} (h : HRel C B σ s w) {x x' : Value} (hx : VRel σ D x x') {size n : Nat} {l : List Value} (hl : firstA s size n x = .ok l) (hn : ∀ m, lenA x = .ok m → n ≤ m) :
    ∃ l' : Array Value, LRel σ (· < s.nx) l l'.toList ∧ (Builtin.firstCells size n x').run P w = .ok l' w := by
  cases x with
  | slice p len c =>
    cases p with
    | none =>
      simp [firstA] at hl; subst hl
      rw [hx.nilS]
      exact ⟨#[], trivial, by simp [Builtin.firstCells]⟩
    | some p =>
      obtain ⟨e1, e2, e3⟩ := hx.slice_inv
      simp only [firstA, e1] at hl
      cases hz : Nat.beq (n * size) 0 with
      | true =>
        rw [hz] at hl; simp at hl; subst hl
        have hz := Nat.eq_of_beq_eq_true hz
        refine ⟨#[], trivial, ?_⟩
        rcases e3 with ⟨_, rfl⟩ | ⟨_, _, _, _, _, rfl⟩ | ⟨_, _, _, rfl⟩ <;> simp only [Builtin.firstCells, hz, loadCells_zero]
      | false =>
        rw [hz] at hl
        simp only [] at hl
        obtain ⟨b, hb, hl⟩ := bnd_ok.1 hl
        obtain ⟨_, _, _, _, cc, fz, h2, h3, _⟩ := h.rd hb
        obtain ⟨h4, h5⟩ := h3.range hl
        have hlen := hn len rfl
        refine ⟨_, by simpa using h4, ?_⟩
        rcases e3 with ⟨_, rfl⟩ | ⟨_, _, _, _, _, rfl⟩ | ⟨_, e4, _⟩
        · simp only [Builtin.firstCells]; exact loadCells_ok (P := P) h2 (by simpa using h5)
        · simp only [Builtin.firstCells]; exact loadCells_ok (P := P) h2 (by simpa using h5)
        · subst e4
          have : n = 0 := by omega
          subst this; simp [Nat.beq] at hz
  | string b =>
    simp [firstA] at hl; subst hl
    rw [hx.string]
    exact ⟨(ofBytes ((bytesL b).take n)).toArray, by rw [List.toList_toArray]; exact ofBytes_rel _, by simp only [Builtin.firstCells, ofBytes_eq, Sem.run_pure]⟩
  | _ => simp [firstA] at hl
theorem len_ok {P : Program} {w : World} {x x' : Value} (hx : VRel σ D x x') {n : Nat} (hl : lenA x = .ok n) : (Builtin.lenOf x').run P w = .ok n w := by
  cases x with
  | slice p len c =>
    simp [lenA] at hl; subst hl
    cases p with
    | none => rw [hx.nilS]; simp [Builtin.lenOf]
    | some p => obtain ⟨_, _, (⟨_, rfl⟩ | ⟨_, _, _, _, _, rfl⟩ | ⟨_, e, _, rfl⟩)⟩ := hx.slice_inv <;> simp [Builtin.lenOf]; exact e.symm
  | string b => simp [lenA] at hl; subst hl; rw [hx.string]; simp [Builtin.lenOf]
  | _ => simp [lenA] at hl

/- conversions -/
theorem bytesOf_ok : ∀ {l : List Value} {r : List UInt8}, bytesOf l = some r → ∃ ns : List Int, l = ns.map (Value.int .u8) ∧ r = ns.map fun n => UInt8.ofNat n.toNat
  | [], r, h => by simp [bytesOf] at h; subst h; exact ⟨[], rfl, rfl⟩
  | x :: l, r, h => by
    cases x with
    | int k n =>
      cases k with
      | u8 =>
        simp only [bytesOf] at h
        cases hb : bytesOf l with
        | none => rw [hb] at h; simp at h
        | some r1 =>
          rw [hb] at h; simp at h; subst h
          obtain ⟨ns, rfl, rfl⟩ := bytesOf_ok hb
          exact ⟨n :: ns, by simp, by simp⟩
      | _ => simp [bytesOf] at h
    | _ => simp [bytesOf] at h
theorem flat_list : ∀ {ns : List Int} {l : List Value}, LRel σ D (ns.map (Value.int .u8)) l → l = ns.map (Value.int .u8)
  | [], [], _ => rfl
  | n :: ns, x :: l, h => by
    have h1 := h.1.int
    rw [h1, flat_list h.2]; rfl
theorem foldl_push : ∀ (ns : List Int) (b : ByteArray), (ns.foldl (fun r n => r.push (UInt8.ofNat n.toNat)) b).data.toList = b.data.toList ++ ns.map fun n => UInt8.ofNat n.toNat
  | [], b => by simp
  | n :: ns, b => by
    simp only [List.foldl_cons, foldl_push ns, ByteArray.data_push, Array.toList_push]
    simp
theorem isU8_ok {e : TypeId} (h : isU8 C e = .ok true) : und C e = .ok (.int .u8) := by
  obtain ⟨d, hd, h⟩ := bnd_ok.1 h
  rw [hd]
  cases d with
  | int k => cases k <;> first | rfl | (simp at h)
  | _ => simp at h
theorem sliceElem_ok {ty e : TypeId} (h : sliceElem C ty = .ok e) : und C ty = .ok (.slice e) := by
  obtain ⟨d, hd, h⟩ := bnd_ok.1 h
  rw [hd]
  cases d with
  | slice e' => simp at h; subst h; rfl
  | _ => simp at h
include ok in
/-- conversions that lay nothing and mark nothing: to a number, to a text -/
theorem conv_read {w : World} (h : HRel C B σ s w) {src dst : TypeId} {x x' : Value} {ds dd : TypeDesc} (hds : und C src = .ok ds) (hdd : und C dst = .ok dd) (hns : ∀ e, dd ≠ .slice e) (hx : VRel σ D x x') (hc : convA C s src dst x = .ok (v, s')) :
    s' = s ∧ flat v = true ∧ (convert src dst x').run C.P w = .ok v w := by
  unfold convA at hc
  rw [hds, hdd] at hc
  simp only [M.bnd] at hc
  have r1 := run_und ok hds
  have r2 := run_und ok hdd
  cases dd with
  | int k =>
    cases x with
    | int j n =>
      simp at hc; obtain ⟨rfl, rfl⟩ := hc
      rw [hx.int]
      refine ⟨rfl, rfl, ?_⟩
      unfold convert
      simp only [Sem.run_bind, r1, r2, Result.andThen_ok]
      cases ds <;> simp [Conv.intToInt, wrapF_eq]
    | _ => simp at hc
  | string =>
    cases x with
    | string b =>
      simp at hc; obtain ⟨rfl, rfl⟩ := hc
      rw [hx.string]
      refine ⟨rfl, rfl, ?_⟩
      unfold convert
      simp only [Sem.run_bind, r1, r2, Result.andThen_ok]
      cases ds <;> simp
    | int j n =>
      simp only [] at hc
      cases ds with
      | int k =>
        simp at hc; obtain ⟨rfl, rfl⟩ := hc
        rw [hx.int]
        refine ⟨rfl, rfl, ?_⟩
        unfold convert
        simp only [Sem.run_bind, r1, r2, Result.andThen_ok]
        simp [Conv.intToString]
      | _ => simp at hc
    | slice p n c =>
      cases p with
      | none =>
        simp only [] at hc
        obtain ⟨e, he1, hc⟩ := bnd_ok.1 hc
        obtain ⟨u, hu, hc⟩ := bnd_ok.1 hc
        cases u with
        | false => simp at hc
        | true =>
          simp at hc; obtain ⟨rfl, rfl⟩ := hc
          rw [hx.nilS]
          refine ⟨rfl, rfl, ?_⟩
          rw [run_convert_bytes_string w src dst e none n c (und_ok ok (sliceElem_ok he1)) (und_ok ok (isU8_ok hu)) (und_ok ok hdd)]
          simp [Conv.bytesToString]; rfl
      | some p =>
        simp only [] at hc
        obtain ⟨e, he1, hc⟩ := bnd_ok.1 hc
        obtain ⟨u, hu, hc⟩ := bnd_ok.1 hc
        cases u with
        | false => simp at hc
        | true =>
          obtain ⟨e1, e2, e3⟩ := hx.slice_inv
          simp only [e1] at hc
          obtain ⟨b, hb, hc⟩ := bnd_ok.1 hc
          obtain ⟨l, hl, hc⟩ := bnd_ok.1 hc
          obtain ⟨r, hr, hc⟩ := bnd_ok.1 hc
          simp at hc; obtain ⟨rfl, rfl⟩ := hc
          have hr := some_ok.1 hr
          obtain ⟨ns, rfl, rfl⟩ := bytesOf_ok hr
          refine ⟨rfl, rfl, ?_⟩
          obtain ⟨_, _, _, _, cc, fz, h2, h3, _⟩ := h.rd hb
          obtain ⟨h4, h5⟩ := h3.range hl
          have h6 := flat_list h4
          have fin : ∀ (x : Addr) (c : Nat), (loadCells x n).run C.P w = .ok (ns.map (Value.int .u8)).toArray w → (convert src dst (.slice (some x) n c)).run C.P w = .ok (.string ⟨⟨ns.map fun n => UInt8.ofNat n.toNat⟩⟩) w := by
            intro x c hlc
            rw [run_convert_bytes_string w src dst e (some x) n c (und_ok ok (sliceElem_ok he1)) (und_ok ok (isU8_ok hu)) (und_ok ok hdd), run_bytesToString w x n c ns hlc]
            congr 2
            apply ByteArray.ext
            apply Array.ext'
            rw [foldl_push]; simp
          rcases e3 with ⟨_, rfl⟩ | ⟨_, _, _, _, _, rfl⟩ | ⟨_, e4, o', rfl⟩
          · exact fin _ _ (by rw [loadCells_ok (P := C.P) h2 (by simpa using h5), h6])
          · exact fin _ _ (by rw [loadCells_ok (P := C.P) h2 (by simpa using h5), h6])
          · subst e4
            have hns0 := rangeN_zero hl
            have : ns = [] := by simpa using hns0
            subst this
            exact fin _ _ (by rw [loadCells_zero]; rfl)
    | _ => simp at hc
  | slice e => exact absurd rfl (hns e)
  | _ => simp at hc
end
end Go.Proofs.YtoddlefhlicfiaaGreatDoorR.X

/- The executor's look-ups, lengths and allocations are the model's. -/
set_option linter.unusedSimpArgs false
set_option linter.unusedVariables false
namespace Go.Proofs.YtoddlefhlicfiaaGreatDoorR.X
open Go

section
variable {C : Cx} (ok : CxOk C) {B : Nat} {σ : Sg} {D : Nat → Prop} {ρ : Operand → M Value} {a : Act} (he : ERel σ D ρ a) {o : Oper} {s s' : St} {v : Value}

/- keys -/
theorem keyKind_ok {kt : TypeId} {k : Value} {u : Unit} (h : keyKind C kt k = .ok u) : (∃ kd j n, und C kt = .ok (.int kd) ∧ k = .int j n) ∨ (∃ b, und C kt = .ok .string ∧ k = .string b) := by
  obtain ⟨d, hd, h⟩ := bnd_ok.1 h
  rw [hd]
  cases d with
  | int kd =>
    cases k with
    | int j n => exact .inl ⟨kd, j, n, rfl, rfl⟩
    | _ => simp at h
  | string =>
    cases k with
    | string b => exact .inr ⟨b, rfl, rfl⟩
    | _ => simp at h
  | _ => simp at h
theorem sameNow_ok {d : TypeDesc} {k x x' : Value} {r : Bool} (hk : (∃ kd j n, d = .int kd ∧ k = .int j n) ∨ (∃ b, d = .string ∧ k = .string b)) (h : keyEq k x = .ok r) (hx : VRel σ D x x') : Instr.sameNow d k x' = some r := by
  rcases hk with ⟨kd, j, n, rfl, rfl⟩ | ⟨b, rfl, rfl⟩
  · cases x with
    | int j' m =>
      by_cases e : j = j'
      · subst e
        simp [keyEq, eqI_eq] at h; subst h
        rw [hx.int]; simp [Instr.sameNow]
      · simp [keyEq, e] at h
    | _ => simp [keyEq] at h
  · cases x with
    | string c =>
      simp [keyEq, eqB_eq] at h; subst h
      rw [hx.string]; simp [Instr.sameNow, beq_toListBytes, bytesL, ByteArray.toList_eq]
    | _ => simp [keyEq] at h
theorem findK_ok {d : TypeDesc} {k : Value} (hk : (∃ kd j n, d = .int kd ∧ k = .int j n) ∨ (∃ b, d = .string ∧ k = .string b)) : ∀ {es es' : List MapEntry} {i : Nat} {r : Option Nat}, MRel σ D es es' → findK k es i = .ok r →
    (r = none ∧ Instr.findNow d k es' i = some none) ∨ ∃ j e e', r = some (i + j) ∧ es[j]? = some e ∧ es'[j]? = some e' ∧ VRel σ D e.val e'.val ∧ keyEq k e.key = .ok true ∧ Instr.findNow d k es' i = some (some (i + j, e'.val))
  | [], [], i, r, _, h => by simp [findK] at h; subst h; exact .inl ⟨rfl, by simp [Instr.findNow]⟩
  | e :: es, e' :: es', i, r, hm, h => by
    simp only [findK] at h
    obtain ⟨b, hb, h⟩ := bnd_ok.1 h
    have h1 := sameNow_ok hk hb hm.1.1
    cases b with
    | true =>
      simp at h; subst h
      exact .inr ⟨0, e, e', by simp, by simp, by simp, hm.1.2.1, hb, by simp [Instr.findNow, h1]⟩
    | false =>
      simp only [] at h
      rcases findK_ok hk hm.2 h with ⟨h2, h3⟩ | ⟨j, f, f', h2, h3, h4, h5, h6, h7⟩
      · exact .inl ⟨h2, by simp [Instr.findNow, h1, h3]⟩
      · refine .inr ⟨j + 1, f, f', by rw [h2]; congr 1; omega, by simpa using h3, by simpa using h4, h5, h6, ?_⟩
        simp only [Instr.findNow, h1, h7]
        congr 3; omega
  | [], _ :: _, _, _, hm, _ => hm.elim
  | _ :: _, [], _, _, hm, _ => hm.elim
theorem rdMap_ok {w : World} (h : HRel C B σ s w) {r : Nat} {es : List MapEntry} {c : Nat} (hr : rdMap s r = .ok (es, c)) : LiveW s r ∧ r < s.nx ∧ B ≤ (σ r).blk ∧ ∃ es', w.heap[(σ r).blk]? = some (.map es' c) ∧ MRel σ (· < s.nx) es es'.toList := by
  unfold rdMap at hr
  cases hg : s.h.get r with
  | none => rw [hg] at hr; simp at hr
  | some o =>
    rw [hg] at hr
    cases o <;> simp at hr
    obtain ⟨rfl, rfl⟩ := hr
    obtain ⟨h1, o', h2, es', h3, h4⟩ := h.obj r _ hg rfl
    subst h3
    exact ⟨⟨_, hg, rfl, rfl⟩, h.lt r _ hg, h1, es', h2, h4⟩
include ok
theorem run_checkKey {kt : TypeId} {k : Value} (hk : (∃ kd j n, und C kt = .ok (.int kd) ∧ k = .int j n) ∨ (∃ b, und C kt = .ok .string ∧ k = .string b)) (b : Bool) (w : World) : (Instr.checkKey b 10000 kt k).run C.P w = .ok () w := by
  have gen : ∀ n, (Instr.checkKey b (n + 1) kt k).run C.P w = .ok () w := fun n => by
    rcases hk with ⟨kd, j, m, h1, rfl⟩ | ⟨c, h1, rfl⟩
    · simp only [Instr.checkKey, Sem.run_bind, run_und ok h1, Result.andThen_ok]; rfl
    · simp only [Instr.checkKey, Sem.run_bind, run_und ok h1, Result.andThen_ok]; rfl
  exact gen 9999
omit ok in
theorem kinds {kt : TypeId} {k : Value} (hk : (∃ kd j n, und C kt = .ok (.int kd) ∧ k = .int j n) ∨ (∃ b, und C kt = .ok .string ∧ k = .string b)) :
    ∃ d, und C kt = .ok d ∧ ((∃ kd j n, d = .int kd ∧ k = .int j n) ∨ (∃ b, d = .string ∧ k = .string b)) ∧ X.flat k = true := by
  rcases hk with ⟨kd, j, n, h1, rfl⟩ | ⟨c, h1, rfl⟩
  · exact ⟨_, h1, .inl ⟨_, _, _, rfl, rfl⟩, rfl⟩
  · exact ⟨_, h1, .inr ⟨_, rfl, rfl⟩, rfl⟩
theorem run_findK {kt : TypeId} {k : Value} {d : TypeDesc} (hd : und C kt = .ok d) {es : List MapEntry} {r : Option (Nat × Value)} (h : Instr.findNow d k es 0 = some r) (w : World) : (Instr.findKey kt k es).run C.P w = .ok r w := by
  simp [Instr.findKey, run_und ok hd, h]
omit ok in
theorem mapTypes_ok {ty kt et : TypeId} (h : mapTypes C ty = .ok (kt, et)) : und C ty = .ok (.map kt et) := by
  obtain ⟨d, hd, h⟩ := bnd_ok.1 h
  rw [hd]
  cases d with
  | map k e => simp at h; obtain ⟨rfl, rfl⟩ := h; rfl
  | _ => simp at h
theorem lookup_ok {w : World} (h : HRel C B σ s w) {ty : TypeId} {x x' ix ix' : Value} {b : Bool} (hx : VRel σ D x x') (hix : VRel σ D ix ix') (hl : lookupA C s ty x ix b = .ok v) :
    ∃ v', VRel σ (· < s.nx) v v' ∧ (Instr.lookup ty x' ix' b).run C.P w = .ok v' w := by
  unfold lookupA at hl
  obtain ⟨⟨kt, et⟩, h1, hl⟩ := bnd_ok.1 hl
  obtain ⟨u, h2, hl⟩ := bnd_ok.1 hl
  have h1 := mapTypes_ok h1
  have h2 := keyKind_ok h2
  obtain ⟨d, hd, hk, hf⟩ := kinds h2
  have e := hix.of_flat hf
  subst e
  have found : ∀ {u u' : Value} {q : Bool}, VRel σ (· < s.nx) u u' → (match b with | true => (.ok (.tuple #[u, .bool q]) : M Value) | false => .ok u) = .ok v → VRel σ (· < s.nx) v (if b then .tuple #[u', .bool q] else u') := by
    intro u u' q hu hb
    cases b with
    | true => simp at hb; subst hb; exact LRel.tup (l := [u, .bool q]) (r := [u', .bool q]) ⟨hu, .flat rfl, trivial⟩
    | false => simp at hb; subst hb; exact hu
  cases x with
  | map r =>
    cases r with
    | none =>
      simp only [] at hl
      obtain ⟨z, hz, hl⟩ := bnd_ok.1 hl
      obtain ⟨_, _, _, hfz⟩ := zeroOf_ok ok hz
      refine ⟨_, found (zero_rel hfz) hl, ?_⟩
      rw [hx.nilM]
      have hn : Instr.findNow d ix' [] 0 = some none := by simp [Instr.findNow]
      simp [Instr.lookup, run_und ok h1, run_checkKey ok h2, run_findK ok hd hn, run_zero ok hz]
    | some r =>
      simp only [] at hl
      obtain ⟨⟨es, c⟩, hr, hl⟩ := bnd_ok.1 hl
      obtain ⟨i, hi, hl⟩ := bnd_ok.1 hl
      obtain ⟨_, _, _, es', h3, h4⟩ := rdMap_ok h hr
      rw [hx.map_inv.2]
      have hget : (getObj (σ r).blk).run C.P w = .ok (.map es' c) w := by simp [getObj, Sem.run, h3]
      rcases findK_ok hk h4 hi with ⟨rfl, h5⟩ | ⟨j, e1, e2, rfl, h5, h6, h7, _, h8⟩
      · simp only [] at hl
        obtain ⟨z, hz, hl⟩ := bnd_ok.1 hl
        obtain ⟨_, _, _, hfz⟩ := zeroOf_ok ok hz
        refine ⟨_, found (zero_rel hfz) hl, ?_⟩
        simp [Instr.lookup, run_und ok h1, run_checkKey ok h2, run_findK ok hd h5, run_zero ok hz, hget]
      · simp only [Nat.zero_add] at hl
        obtain ⟨e3, he3, hl⟩ := bnd_ok.1 hl
        have he3 := some_ok.1 he3
        rw [h5] at he3; injection he3 with he3; subst he3
        refine ⟨_, found h7 hl, ?_⟩
        simp [Instr.lookup, run_und ok h1, run_checkKey ok h2, run_findK ok hd h8, hget]
  | _ => simp at hl

/- lengths and the like -/
omit ok in
theorem run_builtin {P : Program} {c : Call} {b : Builtin} (ho : o.op = .call c) (hc : c.callee = .builtin b) : ∃ cs, ∀ w, (execOp a.eval o).run P w = (builtin b c.argTypes o.type cs (c.args.map a.eval)).run P w := by
  obtain ⟨cs, hcs⟩ : ∃ cs, resolve a.eval c o.type = (pure { target := .builtin b c.argTypes o.type cs, args := c.args.map a.eval } : Sem Deferred) := ⟨_, by simp only [resolve, hc]; rfl⟩
  refine ⟨cs, fun w => ?_⟩
  simp only [execOp, ho, hcs, Sem.run_bind, Sem.run_pure, Result.andThen_ok, invoke]
omit ok in
theorem fold_ok {P : Program} {w : World} {k : IntKind} : ∀ {l l' : List Value} {x : Int} {v : Value}, LRel σ D l l' → foldI false k x l = .ok v → (l'.foldlM Builtin.min2 (.int k x)).run P w = .ok v w ∧ X.flat v = true
  | [], [], x, v, _, h => by simp [foldI] at h; subst h; exact ⟨by simp, rfl⟩
  | y :: l, y' :: l', x, v, hr, h => by
    cases y with
    | int j b =>
      rw [hr.1.int]
      simp only [foldI] at h
      by_cases e : k = j
      · subst e
        simp only [decide_true] at h
        cases hlt : ltI b x with
        | true =>
          rw [hlt] at h
          rw [ltI_eq] at hlt
          have hlt : b < x := by simpa using hlt
          have := fold_ok (P := P) (w := w) hr.2 h
          simpa [Builtin.min2, hlt] using this
        | false =>
          rw [hlt] at h
          rw [ltI_eq] at hlt
          have hlt : ¬ b < x := by simpa using hlt
          have := fold_ok (P := P) (w := w) hr.2 h
          simpa [Builtin.min2, hlt] using this
      · simp [e] at h
    | _ => simp [foldI] at h
  | [], _ :: _, _, _, h, _ => h.elim
  | _ :: _, [], _, _, h, _ => h.elim
omit ok in
theorem fold_ok' {P : Program} {w : World} {k : IntKind} : ∀ {l l' : List Value} {x : Int} {v : Value}, LRel σ D l l' → foldI true k x l = .ok v → (l'.foldlM Builtin.max2 (.int k x)).run P w = .ok v w ∧ X.flat v = true
  | [], [], x, v, _, h => by simp [foldI] at h; subst h; exact ⟨by simp, rfl⟩
  | y :: l, y' :: l', x, v, hr, h => by
    cases y with
    | int j b =>
      rw [hr.1.int]
      simp only [foldI] at h
      by_cases e : k = j
      · subst e
        simp only [decide_true] at h
        cases hlt : ltI x b with
        | true =>
          rw [hlt] at h
          rw [ltI_eq] at hlt
          have hlt : x < b := by simpa using hlt
          have := fold_ok' (P := P) (w := w) hr.2 h
          simpa [Builtin.max2, hlt] using this
        | false =>
          rw [hlt] at h
          rw [ltI_eq] at hlt
          have hlt : ¬ x < b := by simpa using hlt
          have := fold_ok' (P := P) (w := w) hr.2 h
          simpa [Builtin.max2, hlt] using this
      · simp [e] at h
    | _ => simp [foldI] at h
  | [], _ :: _, _, _, h, _ => h.elim
  | _ :: _, [], _, _, h, _ => h.elim
/-- len, cap, min, max: they read at most a map's length -/
theorem reads_builtin {w : World} (h : HRel C B σ s w) {b : Builtin} {ts : Array TypeId} {ty : TypeId} {cs : Array Bool} {args args' : List Value} (hb : b = .len ∨ b = .cap ∨ b = .min ∨ b = .max) (ha : LRel σ D args args') (hl : builtinA C s b ts args = .ok (v, s')) :
    s' = s ∧ X.flat v = true ∧ (builtin b ts ty cs args'.toArray).run C.P w = .ok (.value v) w := by
  rcases hb with rfl | rfl | rfl | rfl
  · simp only [builtinA] at hl
    obtain ⟨q, hq, hl⟩ := bnd_ok.1 hl
    obtain ⟨d, hd, hl⟩ := bnd_ok.1 hl
    have hq := some_ok.1 hq
    have hr := run_und ok hd
    match args, args', ha with
    | [], [], _ => cases d <;> simp at hl
    | [x], [x'], hx =>
      have hx := hx.1
      have fin : ∀ {n : Nat}, (Except.ok (Value.int .i64 n, s) : M (Value × St)) = .ok (v, s') → (Builtin.len_ ts ty #[x']).run C.P w = .ok (goInt n) w → s' = s ∧ X.flat v = true ∧ (builtin .len ts ty cs [x'].toArray).run C.P w = .ok (.value v) w := by
        intro n e hrun
        simp at e; obtain ⟨rfl, rfl⟩ := e
        exact ⟨rfl, rfl, by simp [builtin, hrun, goInt]⟩
      cases d with
      | string =>
        cases x with
        | string c => exact fin hl (by rw [hx.string]; simp [Builtin.len_, hq, hr])
        | _ => simp at hl
      | array n e => exact fin hl (by simp [Builtin.len_, hq, hr])
      | slice e =>
        cases x with
        | slice p n c =>
          refine fin hl ?_
          cases p with
          | none => rw [hx.nilS]; simp [Builtin.len_, hq, hr]
          | some p => obtain ⟨_, _, (⟨_, rfl⟩ | ⟨_, _, _, _, _, rfl⟩ | ⟨_, e, _, rfl⟩)⟩ := hx.slice_inv <;> simp [Builtin.len_, hq, hr]; exact e ▸ rfl
        | _ => simp at hl
      | map k e =>
        cases x with
        | map r =>
          cases r with
          | none => exact fin (n := 0) hl (by rw [hx.nilM]; simp [Builtin.len_, hq, hr])
          | some r =>
            simp only [] at hl
            obtain ⟨⟨es, c⟩, hrm, hl⟩ := bnd_ok.1 hl
            obtain ⟨_, _, _, es', h3, h4⟩ := rdMap_ok h hrm
            have hlen : es.length = es'.size := by
              have : ∀ {l r : List MapEntry}, MRel σ (· < s.nx) l r → l.length = r.length := by
                intro l
                induction l with
                | nil => intro r hm; cases r <;> first | rfl | exact hm.elim
                | cons x l ih => intro r hm; cases r with
                  | nil => exact hm.elim
                  | cons y r => simp [ih hm.2]
              simpa using this h4
            refine fin hl ?_
            rw [hx.map_inv.2]
            have hget : (getObj (σ r).blk).run C.P w = .ok (.map es' c) w := by simp [getObj, Sem.run, h3]
            simp [Builtin.len_, hq, hr, hget, hlen]
        | _ => simp at hl
      | _ => simp at hl
    | _ :: _ :: _, _ :: _ :: _, _ => cases d <;> simp at hl
  · simp only [builtinA] at hl
    obtain ⟨q, hq, hl⟩ := bnd_ok.1 hl
    obtain ⟨e, hd, hl⟩ := bnd_ok.1 hl
    have hq := some_ok.1 hq
    have hr := run_und ok (sliceElem_ok hd)
    match args, args', ha with
    | [x], [x'], hx =>
      have hx := hx.1
      cases x with
      | slice p n c =>
        simp only [] at hl
        cases hc : Nat.blt c UNK with
        | false => rw [hc] at hl; simp at hl
        | true =>
          rw [hc] at hl
          simp at hl; obtain ⟨rfl, rfl⟩ := hl
          rw [blt_nat] at hc
          simp only [decide_eq_true_eq] at hc
          refine ⟨rfl, rfl, ?_⟩
          cases p with
          | none => rw [hx.nilS]; simp [builtin, Builtin.cap_, hq, hr, goInt]
          | some p =>
            obtain ⟨_, _, (⟨_, rfl⟩ | ⟨_, _, _, _, _, rfl⟩ | ⟨e1, e2, _, rfl⟩)⟩ := hx.slice_inv
            · simp [builtin, Builtin.cap_, hq, hr, goInt]
            · omega
            · have : c = 0 := by rcases e1 with e1 | ⟨z, e1⟩ <;> omega
              subst this
              simp [builtin, Builtin.cap_, hq, hr, goInt]
      | _ => simp at hl
    | [], [], _ => simp at hl
    | _ :: _ :: _, _ :: _ :: _, _ => simp at hl
  · simp only [builtinA] at hl
    match args, args', ha with
    | [], [], _ => simp at hl
    | x :: l, x' :: l', hx =>
      cases x with
      | int k n =>
        simp only [] at hl
        obtain ⟨u, hu, hl⟩ := bnd_ok.1 hl
        simp at hl; obtain ⟨rfl, rfl⟩ := hl
        obtain ⟨h1, h2⟩ := fold_ok (P := C.P) (w := w) hx.2 hu
        rw [hx.1.int]
        exact ⟨rfl, h2, by simp [builtin, Builtin.min_, h1]⟩
      | _ => simp at hl
  · simp only [builtinA] at hl
    match args, args', ha with
    | [], [], _ => simp at hl
    | x :: l, x' :: l', hx =>
      cases x with
      | int k n =>
        simp only [] at hl
        obtain ⟨u, hu, hl⟩ := bnd_ok.1 hl
        simp at hl; obtain ⟨rfl, rfl⟩ := hl
        obtain ⟨h1, h2⟩ := fold_ok' (P := C.P) (w := w) hx.2 hu
        rw [hx.1.int]
        exact ⟨rfl, h2, by simp [builtin, Builtin.max_, h1]⟩
      | _ => simp at hl
end
end Go.Proofs.YtoddlefhlicfiaaGreatDoorR.X

/- The executor's allocations and stores are the model's. -/
set_option linter.unusedSimpArgs false
set_option linter.unusedVariables false
namespace Go.Proofs.YtoddlefhlicfiaaGreatDoorR.X
open Go

/-- An operation that lays one block, whatever the world. -/
def AllocAt (C : Cx) (σ : Sg) (D : Nat → Prop) (o : Oper) (a : Act) (s s' : St) (v : Value) : Prop := ∃ ao : AO, ao.isDead = false ∧ newO s ao = .ok (s.nx, s') ∧
  ∀ w, ∃ o' sz v' w', (execOp a.eval o).run C.P w = .ok (.value v') w' ∧ w'.heap = w.heap.push o' ∧ w'.os = w.os ∧ w'.tape = w.tape ∧ w'.output = w.output ∧ ORel C σ D ⟨w.heap.size, sz⟩ ao o' ∧
    ∀ (σ' : Sg) (D' : Nat → Prop), D' s.nx → σ' s.nx = ⟨w.heap.size, sz⟩ → VRel σ' D' v v'

section
variable {C : Cx} (ok : CxOk C) {B : Nat} {σ : Sg} {D : Nat → Prop} {ρ : Operand → M Value} {a : Act} (he : ERel σ D ρ a) {o : Oper} {s s' : St} {v : Value}

theorem newO_r {s s' : St} {o : AO} {r : Nat} (h : newO s o = .ok (r, s')) : r = s.nx := by
  obtain ⟨h1, _, h2⟩ := bnd_ok.1 h
  injection h2 with h2; injection h2 with h2; exact h2.symm
theorem cells_new {l : List Value} {cc : Array Value} {e : TypeId} (h : LRel σ D l cc.toList) (b : Nat) : ORel C σ D ⟨b, cc.size⟩ (.cells l e false true) (.cells cc e) :=
  ⟨cc, (0, 0), rfl, by have := h.pre []; simpa using this, fun _ => by have := h.len; simp at this; omega, fun _ => .inl rfl, rfl⟩
theorem ptr_new (n : Nat) : ∀ (σ' : Sg) (D' : Nat → Prop) (l : Loc), D' n → σ' n = l → VRel σ' D' (at0 n) (.pointer (some ⟨l.blk, 0, none⟩)) := by
  intro σ' D' l hd hl; rw [← hl]; exact .ptr hd
theorem allocA_at {e : TypeId} {l : List Value} {u : Value} (hr : LRel σ D l u.cells.toList) (hrun : ∀ w, (execOp a.eval o).run C.P w = .ok (.value (.pointer (some ⟨w.heap.size, 0, none⟩))) (w.alloc (.cells u.cells e)))
    (h : allocA s e l = .ok (v, s')) : AllocAt C σ D o a s s' v := by
  obtain ⟨⟨r, s1⟩, h1, h⟩ := bnd_ok.1 h
  simp at h; obtain ⟨rfl, rfl⟩ := h
  have := newO_r h1; subst this
  exact ⟨_, rfl, h1, fun w => ⟨_, _, _, _, hrun w, rfl, rfl, rfl, rfl, cells_new hr _, fun σ' D' h1 h2 => ptr_new _ σ' D' _ h1 h2⟩⟩
/-- rows of zeros -/
theorem range_rep (zc : Array Value) : ∀ (k : Nat), ((List.range (k * zc.size)).map fun i => zc[i % zc.size]!) = repL zc.toList k
  | 0 => by simp [repL]
  | k + 1 => by
    rw [show (k + 1) * zc.size = zc.size + k * zc.size by rw [Nat.add_mul]; omega, List.range_add, List.map_append, List.map_map]
    have e1 : (List.range zc.size).map (fun i => zc[i % zc.size]!) = zc.toList := by
      apply List.ext_getElem?
      intro i
      by_cases hi : i < zc.size
      · simp [hi, Nat.mod_eq_of_lt hi]
      · simp [hi]
    have e2 : (List.range (k * zc.size)).map ((fun i => zc[i % zc.size]!) ∘ (zc.size + ·)) = (List.range (k * zc.size)).map fun i => zc[i % zc.size]! := by
      apply List.map_congr_left
      intro i _
      simp [Nat.add_mod_left]
    rw [e1, e2, range_rep zc k]; rfl
theorem rep_rel {l r : List Value} (h : LRel σ D l r) : ∀ k, LRel σ D (repL l k) (repL r k)
  | 0 => trivial
  | k + 1 => h.app (rep_rel h k)
theorem rep_len (l : List Value) : ∀ k, (repL l k).length = k * l.length
  | 0 => by simp [repL]
  | k + 1 => by simp [repL, rep_len l k, Nat.add_mul]; omega
theorem zeroCells_eq (zc : Array Value) (k : Nat) : Builtin.zeroCells zc k = (repL zc.toList k).toArray := by
  apply Array.ext'
  simp only [Builtin.zeroCells, Array.toList_map, Array.toList_range]
  exact range_rep zc k
theorem cells_size {z : Value} : (cellsL z).length = z.cells.size := by cases z <;> simp [cellsL, Value.cells]
theorem cells_list {z : Value} : z.cells.toList = cellsL z := by cases z <;> simp [cellsL, Value.cells]
include ok he
omit he in
theorem at_alloc {e : TypeId} (ho : o.op = .alloc e) (h : simpleA C s ρ (.alloc e) = .ok (v, s')) : AllocAt C σ D o a s s' v := by
  obtain ⟨z, hz, h⟩ := bnd_ok.1 h
  obtain ⟨_, _, _, hf⟩ := zeroOf_ok ok hz
  refine allocA_at (zero_cells hf) (fun w => ?_) h
  simp [execOp, ho, Instr.alloc, run_zero ok hz, newVar, newRow]
omit ok in
theorem at_box {e : TypeId} {x : Operand} (ho : o.op = .box e x) (h : simpleA C s ρ (.box e x) = .ok (v, s')) : AllocAt C σ D o a s s' v := by
  obtain ⟨z, hz, h⟩ := bnd_ok.1 h
  refine allocA_at (he x _ hz).cells (fun w => ?_) h
  simp [execOp, ho, Instr.box, newVar, newRow]
theorem at_buildSlice {ty : TypeId} {len : Nat} {ps : Array (Nat × Operand)} (ho : o.op = .buildSlice ty len ps) (h : simpleA C s ρ (.buildSlice ty len ps) = .ok (v, s')) : AllocAt C σ D o a s s' v := by
  obtain ⟨e, he1, h⟩ := bnd_ok.1 h
  obtain ⟨n, hn, h⟩ := bnd_ok.1 h
  obtain ⟨z, hz, h⟩ := bnd_ok.1 h
  obtain ⟨pv, hpv, h⟩ := bnd_ok.1 h
  obtain ⟨_, _, _, hf⟩ := zeroOf_ok ok hz
  cases hc : (Nat.ble (len * n) 16777216 && Nat.ble len 16777216 && Nat.beq (cellsL z).length n) with
  | false => rw [hc] at h; simp at h
  | true =>
    rw [hc] at h
    simp only [Bool.and_eq_true, beq_nat, decide_eq_true_eq] at hc
    obtain ⟨⟨hc1, hc3⟩, hc2⟩ := hc
    have hc1 := Nat.le_of_ble_eq_true hc1
    have hc3 := Nat.le_of_ble_eq_true hc3
    simp only [] at h
    obtain ⟨l, hl, h⟩ := bnd_ok.1 h
    obtain ⟨⟨r, s1⟩, h1, h⟩ := bnd_ok.1 h
    simp at h; obtain ⟨rfl, rfl⟩ := h
    have := newO_r h1; subst this
    obtain ⟨hp1, hp2⟩ := parts_ok he hpv
    have hmap : (ps.map fun (x : Nat × Operand) => (x.1, a.eval x.2)).toList = ps.toList.map fun (x : Nat × Operand) => (x.1, a.eval x.2) := by simp
    have hz2 : z.cells.size = n := by rw [← cells_size]; exact hc2
    have hbase : LRel σ D (repL (cellsL z) len) ((Array.range (len * n)).map fun i => z.cells[i % z.cells.size]!).toList := by
      have e1 : ((Array.range (len * n)).map fun i => z.cells[i % z.cells.size]!).toList = repL z.cells.toList len := by
        rw [← range_rep, hz2]; simp
      rw [e1]
      exact rep_rel (zero_cells hf) len
    obtain ⟨cs', h6, h7⟩ := fill_ok (pl := []) (place := fun i => .ok (i * n, n)) (place' := fun i => some (i * n, n)) (fun i x hx => by simpa using hx) hp1 hp2 hbase hl
    refine ⟨_, rfl, h1, fun w => ⟨.cells cs' e, cs'.size, .slice (some ⟨w.heap.size, 0, none⟩) len len, w.alloc (.cells cs' e), ?_, rfl, rfl, rfl, rfl, cells_new h7 _, fun σ' D' hd hσ => ?_⟩⟩
    · have hop : (execOp a.eval o) = (do pure (Next.value (← Instr.buildSlice ty len (ps.map fun (x : Nat × Operand) => (x.1, a.eval x.2))))) := by simp only [execOp, ho]
      have hng : ¬ (len * n > 2 ^ 24) := by omega
      rw [hop]
      simp only [Sem.run_bind, Instr.buildSlice, run_und ok (sliceElem_ok he1), Result.andThen_ok, run_size ok hn, hng, if_false]
      by_cases h0 : len * n = 0
      · have e0 : Array.range (len * n) = #[] := by rw [h0]; rfl
        have h6' : Instr.fill (fun i => some (i * n, n)) #[] (ps.map fun (x : Nat × Operand) => (x.1, a.eval x.2)).toList = some cs' := by
          rw [hmap, ← h6, e0]; simp
        simp only [h0, if_true, Sem.run_pure, Sem.run_bind, Result.andThen_ok]
        have e1 : ((Array.range 0).map fun i => (#[] : Array Value)[i % (#[] : Array Value).size]!) = #[] := by simp
        rw [e1, h6']
        simp [newRow]
      · simp only [h0, if_false, Sem.run_bind, run_zero ok hz, Result.andThen_ok, Sem.run_pure, hmap, h6]
        simp [newRow]
    · have hb : σ' s.nx = ⟨w.heap.size, cs'.size⟩ := hσ
      have := VRel.slice (σ := σ') (D := D') (b := s.nx) (o := 0) (l := len) (c := len) hd (by unfold UNK; omega)
      rw [hb] at this; exact this
end
end Go.Proofs.YtoddlefhlicfiaaGreatDoorR.X

/- The executor's further allocations: make, maps, iterators of texts, bytes of a text. -/
set_option linter.unusedSimpArgs false
set_option linter.unusedVariables false
namespace Go.Proofs.YtoddlefhlicfiaaGreatDoorR.X
open Go

section
variable {C : Cx} (ok : CxOk C) {B : Nat} {σ : Sg} {D : Nat → Prop} {ρ : Operand → M Value} {a : Act} (he : ERel σ D ρ a) {o : Oper} {s s' : St} {v : Value}
include ok he
set_option maxRecDepth 8000 in
theorem at_makeSlice {ty : TypeId} {lx cx : Operand} (ho : o.op = .makeSlice ty lx cx) (h : simpleA C s ρ (.makeSlice ty lx cx) = .ok (v, s')) : AllocAt C σ D o a s s' v := by
  replace h := bnd_ok.1 h; obtain ⟨e, he1, h⟩ := h
  replace h := bnd_ok.1 h; obtain ⟨n, hn, h⟩ := h
  replace h := bnd_ok.1 h; obtain ⟨i, hi, h⟩ := h
  replace h := bnd_ok.1 h; obtain ⟨z, hz, h⟩ := h
  replace h := bnd_ok.1 h; obtain ⟨lv, hlv, h⟩ := h
  replace h := bnd_ok.1 h; obtain ⟨cv, hcv, h⟩ := h
  replace h := bnd_ok.1 h; obtain ⟨l1, hl1, h⟩ := h
  replace h := bnd_ok.1 h; obtain ⟨c1, hc1, h⟩ := h
  replace h := bnd_ok.1 h; obtain ⟨l, hl, h⟩ := h
  replace h := bnd_ok.1 h; obtain ⟨c, hc, h⟩ := h
  obtain ⟨_, _, _, hf⟩ := zeroOf_ok ok hz
  obtain ⟨k1, rfl⟩ := asI_ok hl1
  obtain ⟨k2, rfl⟩ := asI_ok hc1
  have hl := natOf_ok hl
  have hc := natOf_ok hc
  subst hl; subst hc
  have hlx := (he lx _ hlv).int
  have hcx := (he cx _ hcv).int
  cases hg : (Nat.ble l c && Nat.ble c 65536 && Nat.ble i.bytes 65536 && Nat.beq (cellsL z).length n) with
  | false => rw [hg] at h; simp at h
  | true =>
    rw [hg] at h
    simp only [Bool.and_eq_true, beq_nat, decide_eq_true_eq] at hg
    obtain ⟨⟨⟨g1, g2⟩, g3⟩, g4⟩ := hg
    have g1 := Nat.le_of_ble_eq_true g1
    have g2 := Nat.le_of_ble_eq_true g2
    have g3 := Nat.le_of_ble_eq_true g3
    simp only [] at h
    replace h := bnd_ok.1 h; obtain ⟨⟨r, s1⟩, h1, h⟩ := h
    simp at h; obtain ⟨rfl, rfl⟩ := h
    have := newO_r h1; subst this
    have hz2 : z.cells.size = n := by rw [← cells_size]; exact g4
    have hbase : LRel σ D (repL (cellsL z) c) (repL z.cells.toList c) := rep_rel (zero_cells hf) c
    have hrow : LRel σ D (repL (cellsL z) c) ((repL z.cells.toList c).toArray).toList := by simpa using hbase
    refine ⟨_, rfl, h1, fun w => ⟨.cells (repL z.cells.toList c).toArray e, (repL z.cells.toList c).toArray.size, .slice (some ⟨w.heap.size, 0, none⟩) l c, w.alloc (.cells (repL z.cells.toList c).toArray e), ?_, rfl, rfl, rfl, rfl, cells_new hrow _, fun σ' D' hd hσ => ?_⟩⟩
    · have hop : (execOp a.eval o) = (do pure (Next.value (← Instr.makeSlice ty (a.eval lx) (a.eval cx)))) := by simp only [execOp, ho]
      have w1 : IntKind.i64.wrap (l : Int) = (l : Int) := by rw [IntKind.wrap_i64]; omega
      have w2 : IntKind.i64.wrap (c : Int) = (c : Int) := by rw [IntKind.wrap_i64]; omega
      have hb : i.bytes * c ≤ 4294967296 := Nat.le_trans (Nat.mul_le_mul g3 g2) (by decide)
      have hb' : (i.bytes : Int) * (c : Int) = ((i.bytes * c : Nat) : Int) := (Int.natCast_mul _ _).symm
      have hbn : ¬ ((i.bytes : Int) * (c : Int) > 2 ^ 48) := by rw [hb']; omega
      have hrows : ((Array.range (c * n)).map fun i => z.cells[i % z.cells.size]!) = (repL z.cells.toList c).toArray := by
        apply Array.ext'
        rw [← range_rep, hz2]; simp
      rw [hop, hlx, hcx]
      simp only [Sem.run_bind, Instr.makeSlice, run_und ok (sliceElem_ok he1), Result.andThen_ok, asInt, asIntOf, Sem.run_pure, run_info ok hi, w1, w2]
      have hcond : ((decide ((c : Int) < 0) || decide ((i.bytes : Int) * (c : Int) > 2 ^ 48)) || decide ((l : Int) < 0) || decide ((l : Int) > (c : Int))) = false := by
        simp only [Bool.or_eq_false_iff, decide_eq_false_iff_not]
        refine ⟨⟨⟨by omega, hbn⟩, by omega⟩, by omega⟩
      rw [hcond]
      simp only [Bool.false_eq_true, if_false, Sem.run_bind, run_askRoom, Result.andThen_ok, run_size ok hn, Int.toNat_natCast]
      by_cases h0 : c * n = 0
      · have e0 : (repL z.cells.toList c).toArray = #[] := by rw [← hrows, h0]; simp
        have e2 : Array.range 0 = #[] := by simp
        simp only [h0, if_true, Sem.run_pure, Result.andThen_ok, e0, e2]
        simp [newRow]
      · simp only [h0, if_false, Sem.run_bind, run_zero ok hz, Sem.run_pure, Result.andThen_ok, hrows]
        simp [newRow]
    · have := VRel.slice (σ := σ') (D := D') (b := s.nx) (o := 0) (l := l) (c := c) hd (by unfold UNK; omega)
      rw [hσ] at this; exact this
omit ok he in
theorem at_makeMap {ty : TypeId} {r : Option Operand} (ho : o.op = .makeMap ty r) (h : simpleA C s ρ (.makeMap ty r) = .ok (v, s')) : AllocAt C σ D o a s s' v := by
  cases r with
  | some _ => simp [simpleA] at h
  | none =>
    simp only [simpleA] at h
    replace h := bnd_ok.1 h; obtain ⟨⟨r, s1⟩, h1, h⟩ := h
    simp at h; obtain ⟨rfl, rfl⟩ := h
    have := newO_r h1; subst this
    refine ⟨_, rfl, h1, fun w => ⟨.map #[] 0, 0, .map (some w.heap.size), w.alloc (.map #[] 0), ?_, rfl, rfl, rfl, rfl, ⟨#[], rfl, trivial⟩, fun σ' D' hd hσ => ?_⟩⟩
    · simp [execOp, ho, Instr.makeMap]
    · have := VRel.map (σ := σ') (D := D') (r := s.nx) hd
      rw [hσ] at this; exact this
theorem at_range {ty : TypeId} {x : Operand} (ho : o.op = .range ty x) (h : simpleA C s ρ (.range ty x) = .ok (v, s')) : AllocAt C σ D o a s s' v := by
  replace h := bnd_ok.1 h; obtain ⟨d, hd, h⟩ := h
  have hr := run_und ok hd
  cases d with
  | string =>
    simp only [] at h
    replace h := bnd_ok.1 h; obtain ⟨u, hu, h⟩ := h
    have hx := he x _ hu
    cases u with
    | string b =>
      simp only [] at h
      replace h := bnd_ok.1 h; obtain ⟨⟨r, s1⟩, h1, h⟩ := h
      simp at h; obtain ⟨rfl, rfl⟩ := h
      have := newO_r h1; subst this
      refine ⟨_, rfl, h1, fun w => ⟨.stringIter b 0, 0, .pointer (some ⟨w.heap.size, 0, none⟩), w.alloc (.stringIter b 0), ?_, rfl, rfl, rfl, rfl, rfl, fun σ' D' h1 h2 => ptr_new _ σ' D' _ h1 h2⟩⟩
      simp [execOp, ho, hx.string, Instr.range, hr]
    | _ => simp at h
  | _ => simp at h
theorem at_bytes {src dst e : TypeId} {x : Operand} (ho : o.op = .convert src dst x) (hdst : und C dst = .ok (.slice e)) (hsrc : ∀ e', und C src ≠ .ok (.slice e')) (h : simpleA C s ρ (.convert src dst x) = .ok (v, s')) : AllocAt C σ D o a s s' v := by
  replace h := bnd_ok.1 h; obtain ⟨u, hu, h⟩ := h
  have hx := he x _ hu
  unfold convA at h
  replace h := bnd_ok.1 h; obtain ⟨ds, hds, h⟩ := h
  rw [hdst] at h
  simp only [M.bnd] at h
  replace h := bnd_ok.1 h; obtain ⟨b8, hb8, h⟩ := h
  cases b8 with
  | false => simp at h
  | true =>
    simp only [] at h
    cases u with
    | string b =>
      simp only [hds] at h
      cases ds with
      | string =>
        simp only [] at h
        replace h := bnd_ok.1 h; obtain ⟨⟨r, s1⟩, h1, h⟩ := h
        simp at h; obtain ⟨rfl, rfl⟩ := h
        have := newO_r h1; subst this
        refine ⟨_, rfl, h1, fun w => ⟨.cells (bytesRow b (grownCap w b.size 0 e)) e ((bytesRow b (grownCap w b.size 0 e)).size, (bytesRow b (grownCap w b.size 0 e)).size + 1), (bytesRow b (grownCap w b.size 0 e)).size,
          .slice (some ⟨w.heap.size, 0, none⟩) b.size (grownCap w b.size 0 e), w.drew.alloc (.cells (bytesRow b (grownCap w b.size 0 e)) e ((bytesRow b (grownCap w b.size 0 e)).size, (bytesRow b (grownCap w b.size 0 e)).size + 1)), ?_, rfl, rfl, rfl, rfl, ?_, fun σ' D' hd hσ => ?_⟩⟩
        · have hop : (execOp a.eval o) = (do pure (Next.value (← convert src dst (a.eval x)))) := by simp only [execOp, ho]
          rw [hop, hx.string]
          simp only [Sem.run_bind, run_bytes_of_string w src dst e b (und_ok ok hds) (und_ok ok hdst) (und_ok ok (isU8_ok hb8)), Result.andThen_ok, Sem.run_pure]
        · refine ⟨_, _, rfl, ?_, fun h => by simp at h, fun _ => .inr ⟨Nat.le_refl _, und_ok ok (isU8_ok hb8)⟩, rfl⟩
          have e1 : (bytesRow b (grownCap w b.size 0 e)).toList = ofBytes (bytesL b) ++ List.replicate (grownCap w b.size 0 e - b.size) (.int .u8 0) := by
            simp [bytesRow, ofBytes, bytesL]
          rw [e1]
          exact (ofBytes_rel _).pre _
        · have hsz : (bytesRow b (grownCap w b.size 0 e)).size = grownCap w b.size 0 e := by
            have := grownCap_ge w b.size 0 e
            have hb : b.data.size = b.size := rfl
            simp [bytesRow, hb]; omega
          have := VRel.sliceU (σ := σ') (D := D') (b := s.nx) (o := 0) (l := b.size) (c := grownCap w b.size 0 e) (z := 1) hd (grownCap_ge w b.size 0 e) (by rw [hσ]; simp [hsz])
          rw [hσ] at this; exact this
      | _ => simp at h
    | slice p l c =>
      cases p with
      | none => simp at h
      | some p =>
        simp only [] at h
        replace h := bnd_ok.1 h; obtain ⟨e', he', h⟩ := h
        exact absurd (sliceElem_ok he') (hsrc e')
    | _ => simp at h
end
end Go.Proofs.YtoddlefhlicfiaaGreatDoorR.X

/- The executor's writes are the model's: stores, copies, clears, maps, iterators of texts. -/
set_option linter.unusedSimpArgs false
set_option linter.unusedVariables false
namespace Go.Proofs.YtoddlefhlicfiaaGreatDoorR.X
open Go

/-- What an operation comes to, with the memory behind it. -/
def DoneAt (C : Cx) (B : Nat) (σ : Sg) (o : Oper) (a : Act) (s s' : St) (w : World) (v : Value) : Prop :=
  ∃ σ' w' r v', (execOp a.eval o).run C.P w = .ok r w' ∧ (r = .value v' ∨ (r = .skip ∧ v' = Go.undef)) ∧ HRel C B σ' s' w' ∧ Ext σ σ' s s' w w' ∧ VRel σ' (· < s'.nx) v v'

section
variable {C : Cx} (ok : CxOk C) {B : Nat} {σ : Sg} {D : Nat → Prop} {ρ : Operand → M Value} {a : Act} {o : Oper} {s s' : St} (he : ERel σ (· < s.nx) ρ a) {v : Value} {w : World}

theorem PureAt.done (h : HRel C B σ s w) (hp : s' = s ∧ ∃ v', VRel σ (· < s.nx) v v' ∧ PureAt C.P o a v') : DoneAt C B σ o a s s' w v := by
  obtain ⟨rfl, v', h1, h2⟩ := hp
  exact ⟨σ, w, _, v', h2 w, .inl rfl, h, Ext.refl _ _ _, h1⟩
theorem ReadAt.done (h : HRel C B σ s w) (hp : s' = s ∧ ∃ v', VRel σ (· < s.nx) v v' ∧ ReadAt C.P o a w v') : DoneAt C B σ o a s s' w v := by
  obtain ⟨rfl, v', h1, h2⟩ := hp
  exact ⟨σ, w, _, v', h2, .inl rfl, h, Ext.refl _ _ _, h1⟩
theorem AllocAt.done (h : HRel C B σ s w) (hp : AllocAt C σ (· < s.nx) o a s s' v) : DoneAt C B σ o a s s' w v := by
  obtain ⟨ao, hd, hn, hp⟩ := hp
  obtain ⟨o', sz, v', w', h1, h2, h3, h4, h5, h6, h7⟩ := hp w
  obtain ⟨_, hnx, g1, g2, _⟩ := h.new hn hd h2 h3 h4 h5 h6
  exact ⟨_, w', _, v', h1, .inl rfl, g1, g2, h7 _ _ (by show s.nx < s'.nx; omega) (more_same _ _ _)⟩

/- cells of the model's, set one behind the other -/
theorem setCells_at (b : Nat) (e : TypeId) (fz : Nat × Nat) : ∀ (vs : List Value) (o : Nat) (w : World) (cc : Array Value), w.heap[b]? = some (.cells cc e fz) → o + vs.length ≤ cc.size →
    (∃ cc' : Array Value, (w.setCells b o vs).heap[b]? = some (.cells cc' e fz) ∧ cc'.toList = cc.toList.take o ++ vs ++ cc.toList.drop (o + vs.length)) ∧ (∀ k, k ≠ b → (w.setCells b o vs).heap[k]? = w.heap[k]?) ∧ (w.setCells b o vs).heap.size = w.heap.size ∧
      (w.setCells b o vs).os = w.os ∧ (w.setCells b o vs).tape = w.tape ∧ (w.setCells b o vs).output = w.output
  | [], o, w, cc, h, hl => ⟨⟨cc, h, by simp⟩, fun _ _ => rfl, rfl, rfl, rfl, rfl⟩
  | v :: r, o, w, cc, h, hl => by
    simp only [List.length_cons] at hl
    have hw : (w.setCell ⟨b, o, none⟩ v).heap[b]? = some (.cells (cc.setIfInBounds o v) e fz) := by
      have hb := (Array.getElem?_eq_some_iff.1 h)
      simp only [World.setCell, Array.getElem?_modify, h, if_true]
      simp
    have hk : ∀ k, k ≠ b → (w.setCell ⟨b, o, none⟩ v).heap[k]? = w.heap[k]? := fun k hk => by
      simp only [World.setCell, Array.getElem?_modify]
      rw [if_neg (fun e => hk e.symm)]
    obtain ⟨⟨cc', h1, h2⟩, h3, h4, h5, h6, h7⟩ := setCells_at b e fz r (o + 1) (w.setCell ⟨b, o, none⟩ v) (cc.setIfInBounds o v) hw (by simp; omega)
    refine ⟨⟨cc', h1, ?_⟩, fun k hne => (h3 k hne).trans (hk k hne), h4.trans (by simp [World.setCell]), h5, h6, h7⟩
    rw [h2, Array.toList_setIfInBounds]
    have e1 : (cc.toList.set o v).take (o + 1) = cc.toList.take o ++ [v] := by
      rw [List.take_add_one]
      simp only [List.take_set_of_le (Nat.le_refl _), List.getElem?_set_self (show o < cc.toList.length by simp; omega)]
      simp
    have e2 : (cc.toList.set o v).drop (o + 1 + r.length) = cc.toList.drop (o + (r.length + 1)) := by
      rw [List.drop_set_of_lt (by omega)]; congr 1; omega
    rw [e1, e2]; simp
theorem one_rel {x x' : Value} (h : VRel σ D x x') (hc : isCell x = true) : x'.oneCell' = true := by
  cases h <;> first | rfl | (simp [isCell] at hc; done) | (rename_i hf; cases x <;> first | rfl | (simp [isCell] at hc; done))
theorem noAgg_ok : ∀ {vs vs' : List Value}, LRel σ D vs vs' → noAgg vs = true → ∀ v ∈ vs', v.oneCell' = true
  | [], [], _, _ => by simp
  | x :: l, x' :: l', h, hn => by
    simp only [noAgg] at hn
    cases hc : isCell x with
    | false => rw [hc] at hn; simp at hn
    | true =>
      rw [hc] at hn
      intro v hv
      rcases List.mem_cons.1 hv with e | hv
      · rw [e]; exact one_rel h.1 hc
      · exact noAgg_ok h.2 hn v hv
  | [], _ :: _, h, _ => h.elim
  | _ :: _, [], h, _ => h.elim
theorem storeCells_ok (h : HRel C B σ s w) {p : Addr} {vs vs' : List Value} (hv : LRel σ (· < s.nx) vs vs') (hs : storeCellsA s p vs = .ok s') :
    p.spot = none ∧ p.block < s.nx ∧ ∃ w', (storeCells ⟨(σ p.block).blk, p.off, none⟩ vs').run C.P w = .ok () w' ∧ HRel C B σ s' w' ∧ Ext σ σ s s' w w' ∧ s'.nx = s.nx := by
  unfold storeCellsA at hs
  cases hp : p.spot with
  | some _ => rw [hp] at hs; simp at hs
  | none =>
    rw [hp] at hs
    simp only [] at hs
    replace hs := bnd_ok.1 hs; obtain ⟨b, hb, hs⟩ := hs
    obtain ⟨hlive, hg, hlt, hB, cc, fz, h2, h3, h4, h5, h6⟩ := h.rd hb
    cases hw : b.wr with
    | false => rw [hw] at hs; simp at hs
    | true =>
      rw [hw] at hs
      cases hn : noAgg vs with
      | false => rw [hn] at hs; simp at hs
      | true =>
        rw [hn] at hs
        simp only [] at hs
        cases hx : splice b.c p.off vs with
        | none => rw [hx] at hs; simp at hs
        | some c =>
          rw [hx] at hs
          simp only [] at hs
          obtain ⟨g1, g2, g3⟩ := h3.splice hv hx
          have hle : p.off + vs'.length ≤ cc.size := by simpa using g2
          have hone := noAgg_ok hv hn
          obtain ⟨⟨cc', k1, k2⟩, k3, k4, k5, k6, k7⟩ := setCells_at (σ p.block).blk b.elem fz vs' p.off w cc h2 hle
          have hrun := run_storeCells_cells (P := C.P) (σ p.block).blk p.off vs' 0 w
            (fun j hj => by
              simp only [World.cell?, h2, Nat.add_zero]
              simp; omega)
            (fun j hj => by
              simp only [World.frozen?, h2, Nat.add_zero]
              rcases h5 hw with e | ⟨e, _⟩
              · simp; omega
              · simp; omega) hone
          have hsz : cc'.size = cc.size := by
            have := congrArg List.length k2
            simp at this; omega
          obtain ⟨q1, q2, q3⟩ := h.put (w' := w.setCells (σ p.block).blk p.off vs') hs ⟨_, hg, rfl, by rw [hw]; rfl⟩ (fun k hk => k3 k hk) k4 k5 k6 k7 (fun _ => ⟨_, k1, cc', fz, rfl, by rw [k2]; exact g1, fun hgr => by rw [hsz, h4 hgr, g3], fun _ => by rw [hsz]; exact h5 hw, by rw [hsz]; exact h6⟩)
          exact ⟨rfl, hlt, _, by simpa using hrun, q1, q2, q3⟩
include ok he
theorem do_store (h : HRel C B σ s w) {ty : TypeId} {p x : Operand} (ho : o.op = .store ty p x) (hs : simpleA C s ρ (.store ty p x) = .ok (v, s')) : DoneAt C B σ o a s s' w v := by
  replace hs := bnd_ok.1 hs; obtain ⟨pv, hpv, hs⟩ := hs
  have hp := he p _ hpv
  cases pv with
  | pointer q =>
    cases q with
    | none => simp at hs
    | some q =>
      simp only [] at hs
      replace hs := bnd_ok.1 hs; obtain ⟨xv, hxv, hs⟩ := hs
      replace hs := bnd_ok.1 hs; obtain ⟨s1, hst, hs⟩ := hs
      simp at hs; obtain ⟨rfl, rfl⟩ := hs
      have hx := he x _ hxv
      unfold storeA at hst
      replace hst := bnd_ok.1 hst; obtain ⟨n, hn, hst⟩ := hst
      cases hb : Nat.beq (cellsL xv).length n with
      | false => rw [hb] at hst; simp at hst
      | true =>
        rw [hb] at hst
        simp only [] at hst
        have hb := Nat.eq_of_beq_eq_true hb
        obtain ⟨_, _, w', h1, h2, h3, h4⟩ := storeCells_ok h hx.cells hst
        refine ⟨σ, w', .skip, Go.undef, ?_, .inr ⟨rfl, rfl⟩, h2, h3, .tuple rfl (fun i v v' h => by simp [Go.undef] at h)⟩
        have hsz : (a.eval x).cells.size = n := by
          have := hx.cells.len; simp at this; omega
        have hop : (execOp a.eval o) = (do Instr.storeAt ty (a.eval p) (a.eval x); pure Next.skip) := by simp only [execOp, ho]
        rw [hop, hp.ptr_inv.2.2]
        simp [Instr.storeAt, Instr.sureAddr, storeVar, run_size ok hn, hsz, h1]
  | _ => simp at hs
theorem do_mapUpdate (h : HRel C B σ s w) {ty : TypeId} {m k x : Operand} (ho : o.op = .mapUpdate ty m k x ∨ o.op = .insert ty m k x) (hs : M.bnd (ρ m) (fun m => M.bnd (ρ k) fun k => M.bnd (ρ x) fun x => M.bnd (mapUpdateA C s ty m k x) fun s => .ok (Go.undef, s)) = .ok (v, s')) : DoneAt C B σ o a s s' w v := by
  replace hs := bnd_ok.1 hs; obtain ⟨mv, hmv, hs⟩ := hs
  replace hs := bnd_ok.1 hs; obtain ⟨kv, hkv, hs⟩ := hs
  replace hs := bnd_ok.1 hs; obtain ⟨xv, hxv, hs⟩ := hs
  replace hs := bnd_ok.1 hs; obtain ⟨s1, hu, hs⟩ := hs
  simp at hs; obtain ⟨rfl, rfl⟩ := hs
  have hm := he m _ hmv
  have hk := he k _ hkv
  have hx := he x _ hxv
  have hop : (execOp a.eval o) = (do Instr.mapUpdate ty (a.eval m) (a.eval k) (a.eval x); pure Next.skip) := by rcases ho with ho | ho <;> simp only [execOp, ho]
  unfold mapUpdateA at hu
  replace hu := bnd_ok.1 hu; obtain ⟨⟨kt, et⟩, h1, hu⟩ := hu
  replace hu := bnd_ok.1 hu; obtain ⟨u, h2, hu⟩ := hu
  have h1 := mapTypes_ok h1
  have h2 := keyKind_ok h2
  obtain ⟨d, hd, hkd, hf⟩ := kinds h2
  have ek := hk.of_flat hf
  cases mv with
  | map r =>
    cases r with
    | none => simp at hu
    | some r =>
      simp only [] at hu
      replace hu := bnd_ok.1 hu; obtain ⟨⟨es, c⟩, hr, hu⟩ := hu
      replace hu := bnd_ok.1 hu; obtain ⟨i, hi, hu⟩ := hu
      obtain ⟨hlive, hlt, _, es', h3, h4⟩ := rdMap_ok h hr
      have hget : (getObj (σ r).blk).run C.P w = .ok (.map es' c) w := by simp [getObj, Sem.run, h3]
      have hlt' := (Array.getElem?_eq_some_iff.1 h3).1
      have hset : ∀ o', (setObj (σ r).blk o').run C.P w = .ok () (w.putObj (σ r).blk o') := fun o' => by simp [setObj, Sem.run, h3, World.putObj]
      have fin : ∀ (o1 : AO) (es2 : Array MapEntry) (c2 : Nat), o1.isDead = false → putO s r o1 = .ok s1 → (Instr.mapUpdate ty (a.eval m) (a.eval k) (a.eval x)).run C.P w = .ok () (w.putObj (σ r).blk (.map es2 c2)) → ORel C σ (· < s.nx) (σ r) o1 (.map es2 c2) → DoneAt C B σ o a s s1 w Go.undef := by
        intro o1 es2 c2 _ hput hrun horel
        obtain ⟨q1, q2, q3⟩ := h.put (w' := w.putObj (σ r).blk (.map es2 c2)) hput hlive (fun k hk => World.putObj_heap_other hk) (World.putObj_size) rfl rfl rfl (fun _ => ⟨_, World.putObj_heap_same hlt', horel⟩)
        exact ⟨σ, _, .skip, Go.undef, by rw [hop]; simp [hrun], .inr ⟨rfl, rfl⟩, q1, q2, .tuple rfl (fun i v v' h => by simp [Go.undef] at h)⟩
      rcases findK_ok hkd h4 hi with ⟨rfl, h5⟩ | ⟨j, e1, e2, rfl, h5, h6, h7, h9, h8⟩
      · simp only [] at hu
        refine fin _ (es'.push { key := a.eval k, val := a.eval x, born := c }) (c + 1) rfl hu ?_ ⟨_, rfl, ?_⟩
        · rw [hm.map_inv.2, ek]
          simp [Instr.mapUpdate, run_und ok h1, hget, run_checkKey ok h2, run_findK ok hd h5, hset]
        · have app : ∀ {l l' : List MapEntry} {x x' : MapEntry}, MRel σ (· < s.nx) l l' → VRel σ (· < s.nx) x.key x'.key ∧ VRel σ (· < s.nx) x.val x'.val ∧ x.born = x'.born → MRel σ (· < s.nx) (l ++ [x]) (l' ++ [x']) := by
            intro l
            induction l with
            | nil => intro l' x x' hm hx; cases l' with
              | nil => exact ⟨hx, trivial⟩
              | cons _ _ => exact hm.elim
            | cons y l ih => intro l' x x' hm hx; cases l' with
              | nil => exact hm.elim
              | cons y' l' => exact ⟨hm.1, ih hm.2 hx⟩
          rw [Array.toList_push]
          exact app h4 ⟨hk, hx, rfl⟩
      · simp only [Nat.zero_add] at hu h8
        refine fin _ (es'.modify j fun e => { e with key := a.eval k, val := a.eval x }) c rfl hu ?_ ⟨_, rfl, ?_⟩
        · have hej : es'[j]? = some e2 := by simpa using h6
          have hkey : (Instr.keyThatStays (((es'[j]?).map (·.key)).getD (a.eval k)) (a.eval k)).run C.P w = .ok (a.eval k) w := by
            rw [hej]
            have hb : Instr.sameBits 10000 e2.key kv = true := by
              have hek : VRel σ (· < s.nx) e1.key e2.key := by
                have : ∀ {l l' : List MapEntry} {i : Nat} {x x' : MapEntry}, MRel σ (· < s.nx) l l' → l[i]? = some x → l'[i]? = some x' → VRel σ (· < s.nx) x.key x'.key := by
                  intro l
                  induction l with
                  | nil => intro l' i x x' _ h _; simp at h
                  | cons y l ih => intro l' i x x' hm h h'; cases l' with
                    | nil => exact hm.elim
                    | cons y' l' =>
                      cases i with
                      | zero => simp at h h'; subst h; subst h'; exact hm.1.1
                      | succ i => simp at h h'; exact ih hm.2 h h'
                exact this h4 h5 h6
              rcases hkd with ⟨kd, j', n, rfl, rfl⟩ | ⟨b', rfl, rfl⟩
              · cases hk1 : e1.key with
                | int j2 m =>
                  rw [hk1] at h9 hek
                  rw [hek.int]
                  by_cases ej : j' = j2
                  · subst ej
                    simp [keyEq, eqI_eq] at h9; subst h9
                    unfold Instr.sameBits; simp
                  · simp [keyEq, ej] at h9
                | _ => rw [hk1] at h9; simp [keyEq] at h9
              · cases hk1 : e1.key with
                | string c' =>
                  rw [hk1] at h9 hek
                  rw [hek.string]
                  simp only [keyEq, eqB_eq] at h9
                  have : c' = b' := by
                    have h9 : bytesL b' = bytesL c' := by simpa using h9
                    apply ByteArray.ext; apply Array.ext'; exact h9.symm
                  subst this
                  show (c' == c') = true
                  rw [beq_toListBytes]; simp
                | _ => rw [hk1] at h9; simp [keyEq] at h9
            unfold Instr.keyThatStays
            simp only [Option.map_some, Option.getD_some, ek, hb, if_true, Sem.run_pure]
          rw [hm.map_inv.2]
          simp only [ek] at hkey ⊢
          simp [Instr.mapUpdate, run_und ok h1, hget, run_checkKey ok h2, run_findK ok hd h8, hkey, hset]
        · have md : ∀ {l l' : List MapEntry} {i : Nat}, MRel σ (· < s.nx) l l' → MRel σ (· < s.nx) (modL (fun e => { e with key := kv, val := xv }) l i) (l'.modify i fun e => { e with key := a.eval k, val := a.eval x }) := by
            intro l
            induction l with
            | nil => intro l' i hm; cases l' with
              | nil => simp [modL, MRel]
              | cons _ _ => exact hm.elim
            | cons y l ih => intro l' i hm; cases l' with
              | nil => exact hm.elim
              | cons y' l' =>
                cases i with
                | zero => exact ⟨⟨hk, hx, hm.1.2.2⟩, hm.2⟩
                | succ i => exact ⟨hm.1, ih hm.2⟩
          have := md (i := j) h4
          rwa [← Array.toList_modify] at this
  | _ => simp at hu
end
end Go.Proofs.YtoddlefhlicfiaaGreatDoorR.X
