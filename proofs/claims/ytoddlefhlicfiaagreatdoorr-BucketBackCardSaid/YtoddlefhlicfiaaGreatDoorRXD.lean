/- The executor, part D: its texts one behind the other (see each head). No statement of the seat stands here. -/
import Derived.Test.YtoddlefhlicfiaaGreatDoorRXC
import Derived.OrdersIn
import Derived.Scope
import Derived.Below
set_option linter.unusedVariables false
set_option linter.unusedSimpArgs false
/- Regions whose order the text fixes: the executor's are the model's. -/
set_option linter.unusedSimpArgs false
set_option linter.unusedVariables false
namespace Go.Proofs.YtoddlefhlicfiaaGreatDoorR.X
open Go

section
variable {C : Cx} (ok : CxOk C) (hN : NameOk C.P) (hI : IntrOk C) {rec : Rec} (hR : RecOk C rec) {B : Nat} {s s' : St} {w : World}
theorem about_wide {F : Fence} (hF : WideF F) {o : Oper} {P : Program} {w : World} {ρ : Operand → Value} : ∀ f, o.about P w ρ = some f → F.fn f := fun f _ => hF.fn f
include ok hN hI hR
theorem ops_wp {F : Fence} (hF : WideF F) {n : Nat} {ops : Array Oper} {Q : Exit → Act → World → Prop} : ∀ (rest : List Oper) (i : Nat) (t t' : Tm) (s s' : St) (σ : Sg) (a : Act) (w : World), ops.toList.drop i = rest → i ≤ ops.size → execOps C rec ops.toList rest t s = .ok (t', s') →
    HRel C B σ s w → TRel σ (· < s.nx) t a.tmps → (∀ σ' w' tmps', HRel C B σ' s' w' → Ext σ σ' s s' w w' → TRel σ' (· < s'.nx) t' tmps' → Q .normal { a with tmps := tmps' } w') →
    wpOpsIn F n C.P ops Q (List.range' i (ops.size - i)) a w
  | [], i, t, t', s, s', σ, a, w, hd, hle, hs, h, ht, hq => by
    simp [execOps] at hs; obtain ⟨rfl, rfl⟩ := hs
    have hi : ops.size ≤ i := by have := congrArg List.length hd; simp at this; omega
    rw [show ops.size - i = 0 by omega]
    exact hq σ w a.tmps h (Ext.refl _ _ _) ht
  | o :: rest, i, t, t', s, s', σ, a, w, hd, hle, hs, h, ht, hq => by
    have hi : i < ops.size := by have := congrArg List.length hd; simp at this; omega
    have ho : ops[i]? = some o := by
      have : (ops.toList.drop i)[0]? = some o := by rw [hd]; rfl
      rw [List.getElem?_drop] at this
      simpa using this
    have hd' : ops.toList.drop (i + 1) = rest := by
      have := congrArg (List.drop 1) hd
      rw [List.drop_drop] at this
      simpa [Nat.add_comm] using this
    rw [show ops.size - i = (ops.size - (i + 1)) + 1 by omega, List.range'_succ]
    simp only [wpOpsIn, ho]
    simp only [execOps] at hs
    replace hs := bnd_ok.1 hs; obtain ⟨b, hb, hs⟩ := hs
    have he : ERel σ (· < s.nx) (evalA C.G t) a := ht.erel h.glob
    rw [wanted_ok he hb]
    cases b with
    | true =>
      simp only [if_true]
      simp only [] at hs
      replace hs := bnd_ok.1 hs; obtain ⟨⟨v, s1⟩, hop, hs⟩ := hs
      simp only [] at hs
      replace hs := bnd_ok.1 hs; obtain ⟨t1, hput, hs⟩ := hs
      refine op_wp ok hN hI hR hF he h hop ?_
      intro σ' w' v' g1 g2 g3
      refine ops_wp hF rest (i + 1) t1 t' s1 s' σ' (a.put o.dst v') w' hd' (by omega) hs g1 (put_ok hput (g2.trel ht) g3) ?_
      intro σ2 w2 tmps2 k1 k2 k3
      have := hq σ2 w2 tmps2 k1 (Ext.trans h g1 g2 k2) k3
      have e : ({ a.put o.dst v' with tmps := tmps2 } : Act) = { a with tmps := tmps2 } := by cases o.dst <;> rfl
      rw [e]; exact this
    | false =>
      simp only [Bool.false_eq_true, if_false]
      simp only [] at hs
      replace hs := bnd_ok.1 hs; obtain ⟨t1, hput, hs⟩ := hs
      refine ⟨about_wide hF, ?_⟩
      refine ops_wp hF rest (i + 1) t1 t' s s' σ (a.put o.dst Go.undef) w hd' (by omega) hs h (put_ok hput ht undef_rel) ?_
      intro σ2 w2 tmps2 k1 k2 k3
      have := hq σ2 w2 tmps2 k1 k2 k3
      have e : ({ a.put o.dst Go.undef with tmps := tmps2 } : Act) = { a with tmps := tmps2 } := by cases o.dst <;> rfl
      rw [e]; exact this
theorem region_plain {F : Fence} (hF : WideF F) {n id : Nat} {ops : Array Oper} {Q : Exit → Act → World → Prop} {t t' : Tm} {σ : Sg} {a : Act} (hs : execOps C rec ops.toList ops.toList t s = .ok (t', s')) (h : HRel C B σ s w) (ht : TRel σ (· < s.nx) t a.tmps)
    (hq : ∀ σ' w' tmps', HRel C B σ' s' w' → Ext σ σ' s s' w w' → TRel σ' (· < s'.nx) t' tmps' → Q .normal { a with tmps := tmps' } w') : (Code.region id ops false).wpIn F n C.P Q a w := by
  refine wpIn_region ?_
  have := ops_wp ok hN hI hR (B := B) hF (n := n) (Q := Q) ops.toList 0 t t' s s' σ a w (by simp) (by omega) hs h ht hq
  rwa [Nat.sub_zero, ← List.range_eq_range'] at this
end
end Go.Proofs.YtoddlefhlicfiaaGreatDoorR.X

/- Operations by class; what an operation reads. -/
set_option linter.unusedSimpArgs false
set_option linter.unusedVariables false
namespace Go.Proofs.YtoddlefhlicfiaaGreatDoorR.X
open Go

theorem mapM_congr {α β : Type} {f g : α → M β} : ∀ {l : List α}, (∀ x ∈ l, f x = g x) → mapM' f l = mapM' g l
  | [], _ => rfl
  | a :: l, h => by simp only [mapM', h a (by simp), mapM_congr (l := l) (fun x hx => h x (by simp [hx]))]
theorem optA_congr {ρ ρ' : Operand → M Value} {x : Option Operand} (h : ∀ y, x = some y → ρ y = ρ' y) : optA ρ x = optA ρ' x := by
  cases x with
  | none => rfl
  | some y => simp only [optA, h y rfl]
section
variable {C : Cx} {s : St} {ρ ρ' : Operand → M Value}
theorem simpleA_congr (op : Op) (h : ∀ x ∈ op.operands.toList, ρ x = ρ' x) : simpleA C s ρ op = simpleA C s ρ' op := by
  cases op <;> simp only [Op.operands] at h <;> simp only [simpleA] <;> first
    | rfl
    | (simp at h; simp only [h]; done)
    | skip
  case build t ps =>
    have : partsA ρ ps.toList = partsA ρ' ps.toList := by
      refine mapM_congr (fun x hx => ?_)
      obtain ⟨i, y⟩ := x
      simp only [h y (by simp; exact ⟨i, by simpa using hx⟩)]
    simp only [this]
  case buildSlice t n ps =>
    have : partsA ρ ps.toList = partsA ρ' ps.toList := by
      refine mapM_congr (fun x hx => ?_)
      obtain ⟨i, y⟩ := x
      simp only [h y (by simp; exact ⟨i, by simpa using hx⟩)]
    simp only [this]
  case makeFunc fn first cap =>
    have e1 : mapM' ρ first.toList = mapM' ρ' first.toList := mapM_congr fun x hx => h x (by simp; exact .inl (by simpa using hx))
    have e2 : mapM' ρ cap.toList = mapM' ρ' cap.toList := mapM_congr fun x hx => h x (by simp; exact .inr (by simpa using hx))
    simp only [e1, e2]
  case slice t x lo hi mx =>
    have e0 := h x (by simp)
    have e1 : optA ρ lo = optA ρ' lo := optA_congr fun y e => h y (by simp [e])
    have e2 : optA ρ hi = optA ρ' hi := optA_congr fun y e => h y (by simp [e])
    have e3 : optA ρ mx = optA ρ' mx := optA_congr fun y e => h y (by simp [e])
    simp only [e0, e1, e2, e3]
  case call c =>
    cases hc : c.callee <;> simp only []
    have : mapM' ρ c.args.toList = mapM' ρ' c.args.toList := mapM_congr fun x hx => h x (by simp [Call.operands, hc]; simpa using hx)
    simp only [this]
theorem opR_congr {rec : Rec} (o : Oper) (h : ∀ x ∈ o.op.operands.toList, ρ x = ρ' x) : opR C rec o ρ s = opR C rec o ρ' s := by
  unfold opR
  have h0 := simpleA_congr (C := C) (s := s) o.op h
  cases ho : o.op with
  | call c =>
    rw [ho] at h h0
    simp only [Op.operands] at h
    simp only []
    cases hc : c.callee with
    | builtin b => simp only []; exact h0
    | value f =>
      simp only []
      have e1 : mapM' ρ c.args.toList = mapM' ρ' c.args.toList := mapM_congr fun x hx => h x (by simp [Call.operands, hc]; exact .inr (by simpa using hx))
      have e2 : ρ f = ρ' f := h f (by simp [Call.operands, hc])
      simp only [targetA, hc, e1, e2]
    | invoke r m =>
      simp only []
      have e1 : mapM' ρ c.args.toList = mapM' ρ' c.args.toList := mapM_congr fun x hx => h x (by simp [Call.operands, hc]; exact .inr (by simpa using hx))
      simp only [targetA, hc, e1]
  | _ => rw [ho] at h0; exact h0
/-- the reading of temporaries, kept to those that are named -/
def restr (rs : List Tmp) (ρ : Operand → M Value) : Operand → M Value
  | .tmp d => match memT d rs with
    | true => ρ (.tmp d)
    | false => .error ""
  | x => ρ x
theorem memT_ok {d : Tmp} : ∀ {l : List Tmp}, memT d l = true ↔ d ∈ l
  | [] => by simp [memT]
  | t :: l => by simp only [memT, Bool.or_eq_true, memT_ok (l := l), beq_nat, decide_eq_true_eq, List.mem_cons]; exact or_congr ⟨fun e => e.symm, fun e => e.symm⟩ Iff.rfl
theorem restr_op {ops : List Oper} {o : Oper} : ∀ x ∈ o.op.operands.toList, ρ x = restr (readsOf ops o) ρ x := by
  intro x hx
  cases x with
  | tmp d =>
    have : memT d (readsOf ops o) = true := memT_ok.2 (List.mem_append_left _ (List.mem_filterMap.2 ⟨_, hx, rfl⟩))
    simp only [restr, this]
  | _ => rfl
theorem restr_wanted {ops : List Oper} {o : Oper} : wantedA ops ρ o.guard = wantedA ops (restr (readsOf ops o) ρ) o.guard := by
  unfold wantedA
  cases hg : o.guard with
  | none => rfl
  | some jw =>
    obtain ⟨j, want⟩ := jw
    simp only []
    cases ho : ops[j]? with
    | none => rfl
    | some o' =>
      simp only [some!, M.bnd]
      cases hd : o'.dst with
      | none => rfl
      | some d =>
        simp only []
        have : memT d (readsOf ops o) = true := memT_ok.2 (List.mem_append_right _ (by simp [hg, ho, hd]))
        simp only [restr, this]
end

section
variable {C : Cx} (ok : CxOk C) {B : Nat} {σ : Sg} {D : Nat → Prop} {ρ : Operand → M Value} {a : Act} {o : Oper} {s s' : St} {v : Value} {w : World}
include ok
theorem class_pure (he : ERel σ D ρ a) (hc : clsOf C o.op = .ok .pure) (hs : simpleA C s ρ o.op = .ok (v, s')) : ∃ v', VRel σ D v v' ∧ PureAt C.P o a v' := by
  cases ho : o.op <;> rw [ho] at hc hs <;> simp only [clsOf] at hc <;> first
    | (simp at hc; done)
    | exact (pure_move he ho hs).2
    | exact (pure_assign he ho hs).2
    | exact (pure_pick he ho hs).2
    | exact (pure_build ok he ho hs).2
    | exact (pure_nilCheck he ho hs).2
    | exact (pure_binOp ok he ho hs).2
    | exact (pure_unOp he ho hs).2
    | exact (pure_makeInterface ok he ho hs).2
    | exact (pure_makeFunc he ho hs).2
    | exact (pure_slice ok he ho hs).2
    | exact (pure_fieldAddr ok he ho hs).2
    | exact (pure_field ok he ho hs).2
    | exact (pure_indexAddr ok he ho hs).2
    | exact (pure_index ok he ho hs).2
    | exact (pure_extract he ho hs).2
    | exact (pure_typeAssert ok he ho hs).2
    | skip
  case convert src dst x =>
    obtain ⟨_, _, hc⟩ := bnd_ok.1 hc
    obtain ⟨_, _, hc⟩ := bnd_ok.1 hc
    split at hc <;> simp at hc
  case call c =>
    split at hc
    · split at hc <;> simp at hc
    · simp at hc
theorem class_alloc (he : ERel σ D ρ a) (hc : clsOf C o.op = .ok .alloc) (hs : simpleA C s ρ o.op = .ok (v, s')) : AllocAt C σ D o a s s' v := by
  cases ho : o.op <;> rw [ho] at hc hs <;> simp only [clsOf] at hc <;> first
    | (simp at hc; done)
    | exact at_alloc ok ho hs
    | exact at_box he ho hs
    | exact at_buildSlice ok he ho hs
    | exact at_makeMap ho hs
    | exact at_makeSlice ok he ho hs
    | skip
  case convert src dst x =>
    obtain ⟨ds, hds, hc⟩ := bnd_ok.1 hc
    obtain ⟨dd, hdd, hc⟩ := bnd_ok.1 hc
    split at hc
    · simp at hc
    · rename_i e hn
      exact at_bytes ok he ho hdd (fun e' eq => by rw [hds] at eq; injection eq with eq; exact hn e' eq) hs
    · simp at hc
  case call c =>
    split at hc
    · split at hc <;> simp at hc
    · simp at hc
theorem class_read (he : ERel σ D ρ a) (h : HRel C B σ s w) (hc : clsOf C o.op = .ok .read) (hs : simpleA C s ρ o.op = .ok (v, s')) : ∃ v', VRel σ (· < s.nx) v v' ∧ ReadAt C.P o a w v' := by
  cases ho : o.op <;> rw [ho] at hc hs <;> simp only [clsOf] at hc <;> first
    | (simp at hc; done)
    | exact (read_load ok he h ho hs).2
    | exact (read_lookup ok he h ho hs).2
    | skip
  case convert src dst x =>
    obtain ⟨ds, hds, hc⟩ := bnd_ok.1 hc
    obtain ⟨dd, hdd, hc⟩ := bnd_ok.1 hc
    split at hc
    · simp at hc
    · simp at hc
    · rename_i hn1 hn2
      exact (read_conv ok he h hdd (fun e eq => hn1 e eq) ho hs).2
  case call c =>
    split at hc
    · rename_i b hcc
      split at hc
      · exact (read_builtin ok he h (.inl rfl) ho hcc hs).2
      · exact (read_builtin ok he h (.inr (.inl rfl)) ho hcc hs).2
      · exact (read_builtin ok he h (.inr (.inr (.inl rfl))) ho hcc hs).2
      · exact (read_builtin ok he h (.inr (.inr (.inr rfl))) ho hcc hs).2
      · simp at hc
    · simp at hc
end
end Go.Proofs.YtoddlefhlicfiaaGreatDoorR.X

/- Regions that draw their order: what the plan's tests say. -/
set_option linter.unusedSimpArgs false
set_option linter.unusedVariables false
namespace Go.Proofs.YtoddlefhlicfiaaGreatDoorR.X
open Go

theorem tb_eq (m n : Nat) : tb m n = m.testBit n := by
  unfold tb
  rw [Nat.testBit_eq_decide_div_mod_eq, beq_nat]
  rfl
theorem tb_or (m k n : Nat) : tb (Nat.lor m k) n = (tb m n || tb k n) := by
  simp only [tb_eq]; exact Nat.testBit_or m k n
theorem tb_and (m k n : Nat) : tb (Nat.land m k) n = (tb m n && tb k n) := by
  simp only [tb_eq]; exact Nat.testBit_and m k n
theorem tb_bit (i n : Nat) : tb (bit i) n = decide (i = n) := by
  rw [tb_eq]; exact Nat.testBit_two_pow
theorem tb_zero (n : Nat) : tb 0 n = false := by rw [tb_eq]; simp
theorem tb_mask {n j : Nat} (h : j < n) : tb (bit n - 1) j = true := by
  rw [tb_eq]; show (2 ^ n - 1).testBit j = true
  rw [Nat.testBit_two_pow_sub_one]; simpa using h
theorem edge_fold (bef : List Nat) (j : Nat) : ∀ (l : List Edge) (s : Nat), tb (l.foldl (fun s e => match Region.binds .any e with | true => Nat.lor (Nat.lor s (bit e.on)) (bef.getD e.on 0) | false => s) s) j = true ↔
    tb s j = true ∨ ∃ e ∈ l, Region.binds .any e = true ∧ (e.on = j ∨ tb (bef.getD e.on 0) j = true)
  | [], s => by simp
  | e :: l, s => by
    simp only [List.foldl_cons]
    rw [edge_fold bef j l]
    cases hb : Region.binds .any e with
    | true =>
      simp only [tb_or, tb_bit, Bool.or_eq_true, decide_eq_true_eq, List.mem_cons]
      constructor
      · rintro (((h | h) | h) | ⟨x, hx, h1, h2⟩)
        · exact .inl h
        · exact .inr ⟨e, .inl rfl, hb, .inl h⟩
        · exact .inr ⟨e, .inl rfl, hb, .inr h⟩
        · exact .inr ⟨x, .inr hx, h1, h2⟩
      · rintro (h | ⟨x, (rfl | hx), h1, h2⟩)
        · exact .inl (.inl (.inl h))
        · rcases h2 with h2 | h2
          · exact .inl (.inl (.inr h2))
          · exact .inl (.inr h2)
        · exact .inr ⟨x, hx, h1, h2⟩
    | false =>
      simp only [List.mem_cons]
      constructor
      · rintro (h | ⟨x, hx, h1, h2⟩)
        · exact .inl h
        · exact .inr ⟨x, .inr hx, h1, h2⟩
      · rintro (h | ⟨x, (rfl | hx), h1, h2⟩)
        · exact .inl h
        · rw [hb] at h1; cases h1
        · exact .inr ⟨x, hx, h1, h2⟩
theorem edgeMask_ok (bef : List Nat) (o : Oper) (j : Nat) : tb (edgeMask bef o) j = true ↔ ∃ e ∈ o.after, Region.binds .any e = true ∧ (e.on = j ∨ tb (bef.getD e.on 0) j = true) := by
  exact Iff.trans (edge_fold bef j o.after.toList 0) (by simp [tb_zero])

/-- what is asked of one operation of the plan, wherever it stands -/
structure One (C : Cx) (ops : List Oper) (bef : List Nat) (p : PI) : Prop where
  op : ops[p.i]? = some p.o
  cls : clsOf C p.o.op = .ok p.cls
  at_ : bef.getD p.i 0 = p.bef
  mask : edgeMask bef p.o = p.bef
/-- each stands behind what it must stand behind -/
def Ord (n : Nat) : List PI → (Nat → Prop) → Prop
  | [], Dn => ∀ j, j < n → Dn j
  | p :: ps, Dn => p.i < n ∧ ¬ Dn p.i ∧ (∀ j, tb p.bef j = true → Dn j) ∧ Ord n ps (fun j => Dn j ∨ j = p.i)
theorem Ord.congr {n : Nat} : ∀ {l : List PI} {D D' : Nat → Prop}, (∀ j, D j ↔ D' j) → Ord n l D → Ord n l D'
  | [], D, D', h, ho => fun j hj => (h j).1 (ho j hj)
  | p :: ps, D, D', h, ho => ⟨ho.1, fun e => ho.2.1 ((h _).2 e), fun j hj => (h j).1 (ho.2.2.1 j hj), Ord.congr (fun j => or_congr (h j) Iff.rfl) ho.2.2.2⟩
def flatP (last : List PI) : List (List PI × PI) → List PI
  | [] => last
  | (fl, w) :: rest => fl ++ w :: flatP last rest
def SegP : List (List PI × PI) → Prop
  | [] => True
  | (fl, w) :: rest => (∀ p ∈ fl, isWrite p.cls = false ∧ tb w.bef p.i = true) ∧ isWrite w.cls = true ∧ (match rest with | [] => True | (_, w2) :: _ => tb w2.bef w.i = true) ∧ SegP rest

section
variable {n : Nat} {bef : List Nat}
theorem opOk_ok {d : Nat} {p : PI} (h : opOk n bef d p = true) : tb d p.i = false ∧ p.i < n ∧ (∀ j, tb p.bef j = true → tb d j = true) ∧ edgeMask bef p.o = p.bef ∧ bef.getD p.i 0 = p.bef := by
  unfold opOk at h
  simp only [Bool.and_eq_true, Bool.not_eq_true', beq_nat, blt_nat, decide_eq_true_eq] at h
  obtain ⟨⟨⟨⟨h1, h2⟩, h3⟩, h4⟩, h5⟩ := h
  refine ⟨h1, h2, fun j hj => ?_, h4, h5⟩
  have := tb_and p.bef d j
  rw [h3, hj] at this
  simpa using this.symm
theorem floatsOk_ok {wm : Option PI} : ∀ {fl : List PI} {d d' : Nat}, floatsOk n bef wm fl d = some d' → (∀ p ∈ fl, isWrite p.cls = false ∧ (∀ w, wm = some w → tb w.bef p.i = true) ∧ edgeMask bef p.o = p.bef ∧ bef.getD p.i 0 = p.bef) ∧
    ∀ (rest : List PI), Ord n rest (fun j => tb d' j = true) → Ord n (fl ++ rest) (fun j => tb d j = true)
  | [], d, d', h => by
    simp [floatsOk] at h; subst h
    exact ⟨fun p hp => (by cases hp), fun rest h => h⟩
  | p :: ps, d, d', h => by
    simp only [floatsOk] at h
    split at h
    · rename_i hc
      simp only [Bool.and_eq_true, Bool.not_eq_true'] at hc
      obtain ⟨⟨h1, h2⟩, h3⟩ := hc
      obtain ⟨k1, k2, k3, k4, k5⟩ := opOk_ok h1
      obtain ⟨g1, g2⟩ := floatsOk_ok h
      refine ⟨fun q hq => ?_, fun rest ho => ⟨k2, (fun (e : tb _ _ = true) => by rw [k1] at e; cases e), k3, ?_⟩⟩
      · rcases List.mem_cons.1 hq with rfl | hq
        · exact ⟨h2, fun w hw => by subst hw; exact h3, k4, k5⟩
        · exact g1 q hq
      · refine (g2 rest ho).congr (fun j => ?_)
        rw [tb_or, tb_bit]
        simp only [Bool.or_eq_true, decide_eq_true_eq]
        exact or_congr Iff.rfl ⟨fun e => e.symm, fun e => e.symm⟩
    · cases h
theorem segsOk_ok : ∀ {segs : List (List PI × PI)} {last : List PI} {d : Nat} {lw : Option Nat}, segsOk n bef segs last d lw = true → Ord n (flatP last segs) (fun j => tb d j = true) ∧ SegP segs ∧ (∀ p ∈ last, isWrite p.cls = false) ∧
    (∀ p ∈ flatP last segs, edgeMask bef p.o = p.bef ∧ bef.getD p.i 0 = p.bef) ∧ (∀ l fl w rest, lw = some l → segs = (fl, w) :: rest → tb w.bef l = true)
  | [], last, d, lw, h => by
    simp only [segsOk] at h
    split at h
    · rename_i d' hd
      have hd' := Nat.eq_of_beq_eq_true h
      obtain ⟨g1, g2⟩ := floatsOk_ok hd
      refine ⟨?_, trivial, fun p hp => (g1 p hp).1, fun p hp => (g1 p hp).2.2, fun l fl w rest _ e => by cases e⟩
      have := g2 [] (fun j hj => by rw [hd']; exact tb_mask hj)
      simpa [flatP] using this
    · cases h
  | (fl, w) :: rest, last, d, lw, h => by
    simp only [segsOk] at h
    split at h
    · rename_i d' hd
      simp only [Bool.and_eq_true] at h
      obtain ⟨⟨⟨h1, h2⟩, h3⟩, h4⟩ := h
      obtain ⟨g1, g2⟩ := floatsOk_ok hd
      obtain ⟨k1, k2, k3, k4, k5⟩ := opOk_ok h1
      obtain ⟨m1, m2, m3, m4, m5⟩ := segsOk_ok h4
      refine ⟨?_, ⟨fun p hp => ⟨(g1 p hp).1, (g1 p hp).2.1 w rfl⟩, h2, ?_, m2⟩, m3, ?_, ?_⟩
      · refine g2 _ ⟨k2, (fun (e : tb _ _ = true) => by rw [k1] at e; cases e), k3, m1.congr (fun j => ?_)⟩
        rw [tb_or, tb_bit]
        simp only [Bool.or_eq_true, decide_eq_true_eq]
        exact or_congr Iff.rfl ⟨fun e => e.symm, fun e => e.symm⟩
      · cases rest with
        | nil => trivial
        | cons x r => obtain ⟨f2, w2⟩ := x; exact m5 w.i f2 w2 r rfl rfl
      · intro p hp
        rcases List.mem_append.1 hp with hp | hp
        · exact (g1 p hp).2.2
        · rcases List.mem_cons.1 hp with rfl | hp
          · exact ⟨k4, k5⟩
          · exact m4 p hp
      · intro l fl' w' rest' e1 e2
        injection e2 with e2 e3
        injection e2 with e4 e5
        subst e5; subst e1
        exact h3
    · cases h
/-- temporaries -/
def TmpP (ops : List Oper) (l : List PI) : Prop := ∀ p ∈ l, ∀ q ∈ l, p.i ≠ q.i → ∀ d, q.o.dst = some d → (d ∈ readsOf ops p.o → tb p.bef q.i = true ∨ tb q.bef p.i = true) ∧ p.o.dst ≠ some d
theorem tmpOk_ok {ops : List Oper} {d : Tmp} {q : PI} : ∀ {l : List PI}, tmpOk ops d q l = true → ∀ p ∈ l, p.i ≠ q.i → (d ∈ readsOf ops p.o → tb p.bef q.i = true ∨ tb q.bef p.i = true) ∧ p.o.dst ≠ some d
  | [], _, p, hp => by cases hp
  | x :: l, h, p, hp => by
    simp only [tmpOk, Bool.and_eq_true] at h
    rcases List.mem_cons.1 hp with rfl | hp
    · intro hne
      have h1 := h.1
      simp only [Bool.or_eq_true, beq_nat, decide_eq_true_eq, Bool.and_eq_true, Bool.not_eq_true'] at h1
      rcases h1 with e | ⟨h1, h2⟩
      · exact absurd e hne
      · refine ⟨fun hd => ?_, fun e => ?_⟩
        · rcases h1 with (h1 | h1) | h1
          · rw [memT_ok.2 hd] at h1; cases h1
          · exact .inl h1
          · exact .inr h1
        · rw [e] at h2; simp at h2
    · exact tmpOk_ok h.2 p hp
theorem tmpsOk_ok {ops : List Oper} {all : List PI} : ∀ {l : List PI}, tmpsOk ops all l = true → ∀ q ∈ l, ∀ p ∈ all, p.i ≠ q.i → ∀ d, q.o.dst = some d → (d ∈ readsOf ops p.o → tb p.bef q.i = true ∨ tb q.bef p.i = true) ∧ p.o.dst ≠ some d
  | [], _, q, hq => by cases hq
  | x :: l, h, q, hq => by
    simp only [tmpsOk, Bool.and_eq_true] at h
    rcases List.mem_cons.1 hq with rfl | hq
    · intro p hp hne d hd
      have h1 := h.1
      rw [hd] at h1
      exact tmpOk_ok h1 p hp hne
    · exact tmpsOk_ok h.2 q hq
end

section
variable {C : Cx}
theorem pisOf_ok (ops : List Oper) : ∀ (os : List Oper) (cs : List Cls) (bs : List Nat) (k : Nat), ops.drop k = os → mapM' (fun (o : Oper) => clsOf C o.op) os = .ok cs → ∀ p ∈ pisOf os cs bs k, ops[p.i]? = some p.o ∧ clsOf C p.o.op = .ok p.cls
  | [], cs, bs, k, _, _, p, hp => by cases cs <;> cases bs <;> simp [pisOf] at hp
  | o :: os, cs, bs, k, hd, hm, p, hp => by
    simp only [mapM'] at hm
    obtain ⟨c, hc, hm⟩ := bnd_ok.1 hm
    obtain ⟨cs', hcs, hm⟩ := bnd_ok.1 hm
    injection hm with hm; subst hm
    cases bs with
    | nil => simp [pisOf] at hp
    | cons b bs =>
      simp only [pisOf] at hp
      rcases List.mem_cons.1 hp with rfl | hp
      · refine ⟨?_, hc⟩
        have : (ops.drop k)[0]? = some o := by rw [hd]; rfl
        rw [List.getElem?_drop] at this
        simpa using this
      · refine pisOf_ok ops os cs' bs (k + 1) ?_ hcs p hp
        have := congrArg (List.drop 1) hd
        rw [List.drop_drop] at this
        simpa [Nat.add_comm] using this
theorem segsOf_mem {all : List PI} : ∀ (ws : List PI) (d : Nat), (∀ p ∈ ws, p ∈ all) → ∀ p ∈ flatP (segsOf all ws d).2 (segsOf all ws d).1, p ∈ all
  | [], d, _, p, hp => by
    simp only [segsOf, flatP] at hp
    exact (List.mem_filter.1 hp).1
  | w :: ws, d, h, p, hp => by
    simp only [segsOf, flatP] at hp
    rcases List.mem_append.1 hp with hp | hp
    · exact (List.mem_filter.1 hp).1
    · rcases List.mem_cons.1 hp with rfl | hp
      · exact h _ (by simp)
      · exact segsOf_mem ws _ (fun q hq => h q (by simp [hq])) p hp
/-- What the plan's tests say. -/
structure PlanOk (C : Cx) (ops : List Oper) (bef : List Nat) (pl : Plan) : Prop where
  one : ∀ p ∈ flatP pl.last pl.segs, One C ops bef p
  ord : Ord ops.length (flatP pl.last pl.segs) (fun _ => False)
  seg : SegP pl.segs
  last : ∀ p ∈ pl.last, isWrite p.cls = false
  tmp : TmpP ops (flatP pl.last pl.segs)
theorem planA_ok {ops : List Oper} {pl : Plan} (h : planA C ops = .ok pl) : ∃ bef, PlanOk C ops bef pl := by
  unfold planA at h
  obtain ⟨cs, hcs, h⟩ := bnd_ok.1 h
  simp only [] at h
  split at h
  · rename_i hc
    simp only [Bool.and_eq_true] at hc
    obtain ⟨h1, h2⟩ := hc
    injection h with h; subst h
    obtain ⟨m1, m2, m3, m4, _⟩ := segsOk_ok h1
    have hmem := segsOf_mem (all := pisOf ops cs (befsL ops []) 0) ((pisOf ops cs (befsL ops []) 0).filter fun p => isWrite p.cls) 0 (fun p hp => (List.mem_filter.1 hp).1)
    refine ⟨befsL ops [], fun p hp => ?_, m1.congr (fun j => by rw [tb_zero]; simp), m2, m3, fun p hp q hq => tmpsOk_ok h2 q (hmem q hq) p (hmem p hp)⟩
    obtain ⟨k1, k2⟩ := pisOf_ok (C := C) ops ops cs (befsL ops []) 0 (by simp) hcs p (hmem p hp)
    exact ⟨k1, k2, (m4 p hp).2, (m4 p hp).1⟩
  · cases h
end
end Go.Proofs.YtoddlefhlicfiaaGreatDoorR.X

/- Regions that draw their order: the reckoning in the plan's order, entry by entry. -/
set_option linter.unusedSimpArgs false
set_option linter.unusedVariables false
namespace Go.Proofs.YtoddlefhlicfiaaGreatDoorR.X
open Go

theorem allL_eq {f : Value → Value → Bool} (hf : ∀ x y, f x y = true → x = y) : ∀ {l r : List Value}, allL f l r = true → l = r
  | [], [], _ => rfl
  | x :: l, y :: r, h => by
    simp only [allL, Bool.and_eq_true] at h
    rw [hf x y h.1, allL_eq hf h.2]
  | [], _ :: _, h => by simp [allL] at h
  | _ :: _, [], h => by simp [allL] at h
theorem sameA_eq {a b : Option Addr} (h : sameA a b = true) : a = b := by
  match a, b, h with
  | none, none, _ => rfl
  | some ⟨b1, o1, s1⟩, some ⟨b2, o2, s2⟩, h =>
    simp only [sameA, Bool.and_eq_true, beq_nat, decide_eq_true_eq] at h
    obtain ⟨⟨⟨h1, h2⟩, h3⟩, h4⟩ := h
    cases s1 with
    | some _ => simp at h3
    | none =>
      cases s2 with
      | some _ => simp at h4
      | none => rw [h1, h2]
theorem sameV_eq : ∀ (n : Nat) (x y : Value), sameV n x y = true → x = y
  | 0, x, y, h => by simp [sameV] at h
  | n + 1, x, y, h => by
    unfold sameV at h
    split at h
    all_goals first
      | (rename_i e; cases e; done)
      | (simp only [Bool.false_eq_true] at h; done)
      | skip
    · simp at h; rw [h]
    · simp only [Bool.and_eq_true, eqI_eq] at h; simp at h; rw [h.1, h.2]
    · rename_i n2 a1 b1 heq
      simp only [eqB_eq] at h
      have h : bytesL a1 = bytesL b1 := by simpa using h
      congr 1; apply ByteArray.ext; apply Array.ext'; exact h
    · rw [sameA_eq h]
    · rfl
    · rfl
    · rfl
    · simp only [Bool.and_eq_true, beq_nat, decide_eq_true_eq] at h; rw [sameA_eq h.1.1, h.1.2, h.2]
    · simp only [beq_nat, decide_eq_true_eq] at h; rw [h]
    · rename_i n2 t1 v1 u1 w1 heq
      cases heq
      simp only [Bool.and_eq_true, beq_nat, decide_eq_true_eq] at h; rw [h.1, sameV_eq n _ _ h.2]
    · rename_i n2 a1 b1 heq
      cases heq
      have := allL_eq (sameV_eq n) h; congr 1; apply Array.ext'; exact this
    · rename_i n2 a1 b1 heq
      cases heq
      have := allL_eq (sameV_eq n) h; congr 1; apply Array.ext'; exact this
theorem readAll_skip {f : St → M Value} {bef : Nat} {g : Stage} {gs : List Stage} {v : Value} : ∀ {ws : List Stage}, readAll f bef (ws ++ g :: gs) = .ok v → (∀ x ∈ ws, ∃ i, x.w = some i ∧ tb bef i = false) → f g.s = .ok v
  | [], h, _ => by
    simp only [List.nil_append, readAll] at h
    obtain ⟨u, hu, h⟩ := bnd_ok.1 h
    rw [hu]
    split at h
    · exact h
    · split at h
      · exact h
      · obtain ⟨u2, _, h⟩ := bnd_ok.1 h
        split at h
        · exact h
        · cases h
  | x :: ws, h, hw => by
    simp only [List.cons_append, readAll] at h
    obtain ⟨u, hu, h⟩ := bnd_ok.1 h
    obtain ⟨i, h1, h2⟩ := hw x (by simp)
    rw [h1] at h
    simp only [h2] at h
    obtain ⟨u2, hu2, h⟩ := bnd_ok.1 h
    split at h
    · rename_i hs
      injection h with h; subst h
      have := sameV_eq _ _ _ hs
      subst this
      exact readAll_skip hu2 (fun y hy => hw y (by simp [hy]))
    · cases h

/-- an operation of the plan, with what it met and what it came to -/
structure TE where
  p : PI
  t : Tm
  s : St
  v : Value
  s' : St
section
variable (C : Cx) (rec : Rec) (ops : List Oper)
def FCh (gs : List Stage) : List TE → Tm → St → Tm → St → Prop
  | [], t, s, tf, sf => tf = t ∧ sf = s
  | e :: es, t, s, tf, sf => e.t = t ∧ e.s = s ∧ floatA C ops e.p t s gs = .ok (e.v, e.s') ∧ ∃ t1, put t e.p.o.dst e.v = .ok t1 ∧ FCh gs es t1 e.s' tf sf
def SCh (last : List TE) : List (List TE × TE) → Tm → St → List Stage → Tm → St → Prop
  | [], t, s, gs, tf, sf => FCh C ops gs last t s tf sf
  | (fl, w) :: rest, t, s, gs, tf, sf => ∃ t1 s1, FCh C ops gs fl t s t1 s1 ∧ w.t = t1 ∧ w.s = s1 ∧ writeA C rec ops w.p t1 s1 = .ok (w.v, w.s') ∧ ∃ t2, put t1 w.p.o.dst w.v = .ok t2 ∧
      SCh last rest t2 w.s' ({ w := some w.p.i, s := w.s' } :: gs) tf sf
/-- one behind the other, whatever they do -/
def WCh : List TE → Tm → St → Prop
  | [], _, _ => True
  | e :: es, t, s => e.t = t ∧ e.s = s ∧ e.s.nx ≤ e.s'.nx ∧ ∃ t1, put t e.p.o.dst e.v = .ok t1 ∧ WCh es t1 e.s'
def flatE (last : List TE) : List (List TE × TE) → List TE
  | [] => last
  | (fl, w) :: rest => fl ++ w :: flatE last rest
end
section
variable {C : Cx} {rec : Rec} {ops : List Oper}
theorem float_shape {p : PI} {t : Tm} {s s' : St} {gs : List Stage} {v : Value} (h : floatA C ops p t s gs = .ok (v, s')) : s' = s ∨ s'.nx = s.nx + 1 := by
  unfold floatA at h
  obtain ⟨b, _, h⟩ := bnd_ok.1 h
  cases b with
  | false => simp at h; exact .inl h.2.symm
  | true =>
    simp only [] at h
    split at h
    · obtain ⟨_, _, h⟩ := bnd_ok.1 h; simp at h; exact .inl h.2.symm
    · obtain ⟨_, _, h⟩ := bnd_ok.1 h; simp at h; exact .inl h.2.symm
    · obtain ⟨⟨_, s1⟩, _, h⟩ := bnd_ok.1 h
      simp only [] at h
      split at h
      · rename_i hb; simp at h; have := Nat.eq_of_beq_eq_true hb; right; rw [← h.2]; exact this
      · cases h
    · cases h
theorem write_nx {p : PI} {t : Tm} {s s' : St} {v : Value} (h : writeA C rec ops p t s = .ok (v, s')) : s.nx ≤ s'.nx := by
  unfold writeA at h
  obtain ⟨b, _, h⟩ := bnd_ok.1 h
  cases b with
  | false => simp at h; rw [h.2]; exact Nat.le_refl _
  | true =>
    simp only [] at h
    obtain ⟨⟨_, s1⟩, _, h⟩ := bnd_ok.1 h
    simp only [] at h
    split at h
    · rename_i hb; simp at h; have := Nat.le_of_ble_eq_true hb; rw [← h.2]; exact this
    · cases h
theorem floats_trace {gs : List Stage} : ∀ {fl : List PI} {t tf : Tm} {s sf : St}, floatsA C ops gs fl t s = .ok (tf, sf) → ∃ es : List TE, es.map (·.p) = fl ∧ FCh C ops gs es t s tf sf
  | [], t, tf, s, sf, h => by simp [floatsA] at h; exact ⟨[], rfl, h.1.symm, h.2.symm⟩
  | p :: ps, t, tf, s, sf, h => by
    simp only [floatsA] at h
    obtain ⟨⟨v, s1⟩, h1, h⟩ := bnd_ok.1 h
    simp only [] at h
    obtain ⟨t1, h2, h⟩ := bnd_ok.1 h
    obtain ⟨es, k1, k2⟩ := floats_trace h
    exact ⟨{ p, t, s, v, s' := s1 } :: es, by simp [k1], rfl, rfl, h1, t1, h2, k2⟩
theorem segs_trace {last : List PI} : ∀ {segs : List (List PI × PI)} {t tf : Tm} {s sf : St} {gs : List Stage}, segsA C rec ops last segs t s gs = .ok (tf, sf) →
    ∃ (es : List (List TE × TE)) (le : List TE), flatP last segs = (flatE le es).map (·.p) ∧ segs = es.map (fun x => (x.1.map (·.p), x.2.p)) ∧ last = le.map (·.p) ∧ SCh C rec ops le es t s gs tf sf
  | [], t, tf, s, sf, gs, h => by
    simp only [segsA] at h
    obtain ⟨le, k1, k2⟩ := floats_trace h
    exact ⟨[], le, by simp [flatP, flatE, k1], rfl, k1.symm, k2⟩
  | (fl, w) :: rest, t, tf, s, sf, gs, h => by
    simp only [segsA] at h
    obtain ⟨⟨t1, s1⟩, h1, h⟩ := bnd_ok.1 h
    simp only [] at h
    obtain ⟨⟨v, s2⟩, h2, h⟩ := bnd_ok.1 h
    simp only [] at h
    obtain ⟨t2, h3, h⟩ := bnd_ok.1 h
    obtain ⟨fe, k1, k2⟩ := floats_trace h1
    obtain ⟨es, le, m1, m2, m3, m4⟩ := segs_trace h
    refine ⟨(fe, { p := w, t := t1, s := s1, v, s' := s2 }) :: es, le, ?_, ?_, m3, t1, s1, k2, rfl, rfl, h2, t2, h3, m4⟩
    · simp [flatP, flatE, k1, m1]
    · simp [k1, m2]
theorem FCh.wch {gs : List Stage} : ∀ {es : List TE} {t tf : Tm} {s sf : St} {rest : List TE}, FCh C ops gs es t s tf sf → WCh rest tf sf → WCh (es ++ rest) t s
  | [], t, tf, s, sf, rest, h, hr => by obtain ⟨rfl, rfl⟩ := h; exact hr
  | e :: es, t, tf, s, sf, rest, h, hr => by
    obtain ⟨h1, h2, h3, t1, h4, h5⟩ := h
    refine ⟨h1, h2, ?_, t1, h4, h5.wch hr⟩
    rw [h2]; rcases float_shape h3 with e | e
    · rw [e]; exact Nat.le_refl _
    · omega
theorem SCh.wch {last : List TE} : ∀ {segs : List (List TE × TE)} {t tf : Tm} {s sf : St} {gs : List Stage}, SCh C rec ops last segs t s gs tf sf → WCh (flatE last segs) t s
  | [], t, tf, s, sf, gs, h => by have := FCh.wch (rest := []) h trivial; simpa [flatE] using this
  | (fl, w) :: rest, t, tf, s, sf, gs, h => by
    obtain ⟨t1, s1, h1, h2, h3, h4, t2, h5, h6⟩ := h
    exact h1.wch ⟨h2, h3, by rw [h3]; exact write_nx h4, t2, h5, h6.wch⟩
theorem put_get {t t1 : Tm} {dst : Option Tmp} {v : Value} (h : put t dst v = .ok t1) (d : Tmp) : (dst = some d ∧ Tm.get t1 d = some v ∧ (Tm.get t d).isSome = true) ∨ (dst ≠ some d ∧ Tm.get t1 d = Tm.get t d) := by
  cases dst with
  | none => simp [put] at h; subst h; exact .inr ⟨by simp, rfl⟩
  | some d' =>
    obtain ⟨h1, h2, h3⟩ := updM_ok h
    by_cases e : d' = d
    · subst e; exact .inl ⟨rfl, h2, h1⟩
    · exact .inr ⟨by simpa using e, h3 d (fun x => e x.symm)⟩
/-- what a temporary holds when an entry is met -/
theorem WCh.get : ∀ {pre : List TE} {e : TE} {post : List TE} {t : Tm} {s : St}, WCh (pre ++ e :: post) t s → ∀ (d : Tmp) (v : Value), Tm.get e.t d = some v →
    (Tm.get t d = some v ∧ ∀ x ∈ pre, x.p.o.dst ≠ some d) ∨ ∃ x ∈ pre, x.p.o.dst = some d ∧ x.v = v
  | [], e, post, t, s, h, d, v, hv => by
    left; exact ⟨by rw [← h.1]; exact hv, fun x hx => (by cases hx)⟩
  | y :: pre, e, post, t, s, h, d, v, hv => by
    obtain ⟨_, _, _, t1, h4, h5⟩ := h
    rcases WCh.get h5 d v hv with ⟨k1, k2⟩ | ⟨x, k1, k2, k3⟩
    · rcases put_get h4 d with ⟨g1, g2, _⟩ | ⟨g1, g2⟩
      · right; refine ⟨y, by simp, g1, ?_⟩
        rw [g2] at k1; injection k1
      · left; refine ⟨by rw [← g2]; exact k1, fun x hx => ?_⟩
        rcases List.mem_cons.1 hx with rfl | hx
        · exact g1
        · exact k2 x hx
    · right; exact ⟨x, by simp [k1], k2, k3⟩
theorem WCh.nx : ∀ {es : List TE} {t : Tm} {s : St}, WCh es t s → ∀ e ∈ es, s.nx ≤ e.s.nx ∧ e.s.nx ≤ e.s'.nx
  | [], t, s, h, e, he => by cases he
  | y :: es, t, s, h, e, he => by
    obtain ⟨h1, h2, h3, t1, h4, h5⟩ := h
    rcases List.mem_cons.1 he with rfl | he
    · exact ⟨by rw [h2]; exact Nat.le_refl _, h3⟩
    · obtain ⟨k1, k2⟩ := WCh.nx h5 e he
      exact ⟨by rw [h2] at h3; omega, k2⟩
theorem WCh.nx2 : ∀ {pre : List TE} {e : TE} {post : List TE} {t : Tm} {s : St}, WCh (pre ++ e :: post) t s → (∀ x ∈ pre, x.s'.nx ≤ e.s.nx) ∧ (∀ x ∈ post, e.s'.nx ≤ x.s.nx)
  | [], e, post, t, s, h => by
    obtain ⟨h1, h2, h3, t1, h4, h5⟩ := h
    exact ⟨fun x hx => (by cases hx), fun x hx => (h5.nx x hx).1⟩
  | y :: pre, e, post, t, s, h => by
    obtain ⟨h1, h2, h3, t1, h4, h5⟩ := h
    obtain ⟨k1, k2⟩ := h5.nx2
    refine ⟨fun x hx => ?_, k2⟩
    rcases List.mem_cons.1 hx with rfl | hx
    · exact (h5.nx e (by simp)).1
    · exact k1 x hx
/-- what a temporary holds behind all of them -/
theorem FCh.get {gs : List Stage} : ∀ {es : List TE} {t tf : Tm} {s sf : St}, FCh C ops gs es t s tf sf → ∀ (d : Tmp) (v : Value), Tm.get tf d = some v →
    (Tm.get t d = some v ∧ ∀ x ∈ es, x.p.o.dst ≠ some d) ∨ ∃ x ∈ es, x.p.o.dst = some d ∧ x.v = v
  | [], t, tf, s, sf, h, d, v, hv => by obtain ⟨rfl, rfl⟩ := h; exact .inl ⟨hv, fun x hx => (by cases hx)⟩
  | y :: es, t, tf, s, sf, h, d, v, hv => by
    obtain ⟨_, _, _, t1, h4, h5⟩ := h
    rcases FCh.get h5 d v hv with ⟨k1, k2⟩ | ⟨x, k1, k2, k3⟩
    · rcases put_get h4 d with ⟨g1, g2, _⟩ | ⟨g1, g2⟩
      · right; refine ⟨y, by simp, g1, ?_⟩
        rw [g2] at k1; injection k1
      · left; refine ⟨by rw [← g2]; exact k1, fun x hx => ?_⟩
        rcases List.mem_cons.1 hx with rfl | hx
        · exact g1
        · exact k2 x hx
    · right; exact ⟨x, by simp [k1], k2, k3⟩
theorem FCh.at_ {gs : List Stage} : ∀ {es : List TE} {t tf : Tm} {s sf : St}, FCh C ops gs es t s tf sf → ∀ e ∈ es, floatA C ops e.p e.t e.s gs = .ok (e.v, e.s')
  | [], t, tf, s, sf, h, e, he => by cases he
  | y :: es, t, tf, s, sf, h, e, he => by
    obtain ⟨h1, h2, h3, t1, h4, h5⟩ := h
    rcases List.mem_cons.1 he with rfl | he
    · rw [h1, h2]; exact h3
    · exact h5.at_ e he
/-- a float's own reckoning, with the stages that it saw -/
theorem SCh.at_ {last : List TE} : ∀ {segs : List (List TE × TE)} {t tf : Tm} {s sf : St} {gs : List Stage}, SCh C rec ops last segs t s gs tf sf → ∀ e ∈ flatE last segs, (∀ fw ∈ segs, e ≠ fw.2) →
    ∃ ws, floatA C ops e.p e.t e.s (ws ++ gs) = .ok (e.v, e.s') ∧ ∀ g ∈ ws, ∃ fw ∈ segs, g.w = some fw.2.p.i
  | [], t, tf, s, sf, gs, h, e, he, _ => ⟨[], FCh.at_ (show FCh C ops gs last t s tf sf from h) e he, fun g hg => (by cases hg)⟩
  | (fl, w) :: rest, t, tf, s, sf, gs, h, e, he, hne => by
    obtain ⟨t1, s1, h1, h2, h3, h4, t2, h5, h6⟩ := h
    simp only [flatE] at he
    rcases List.mem_append.1 he with he | he
    · exact ⟨[], h1.at_ e he, fun g hg => (by cases hg)⟩
    · rcases List.mem_cons.1 he with rfl | he
      · exact absurd rfl (hne (fl, e) (by simp))
      · obtain ⟨ws, k1, k2⟩ := h6.at_ e he (fun fw hfw => hne fw (by simp [hfw]))
        refine ⟨ws ++ [{ w := some w.p.i, s := w.s' }], by simpa using k1, fun g hg => ?_⟩
        rcases List.mem_append.1 hg with hg | hg
        · obtain ⟨fw, m1, m2⟩ := k2 g hg
          exact ⟨fw, by simp [m1], m2⟩
        · rw [List.mem_singleton.1 hg]; exact ⟨(fl, w), by simp, rfl⟩
theorem put_some {gs : List Stage} : ∀ {es : List TE} {t : Tm} {s : St}, WCh es t s → ∀ e ∈ es, ∃ t1, put e.t e.p.o.dst e.v = .ok t1
  | [], t, s, h, e, he => by cases he
  | y :: es, t, s, h, e, he => by
    obtain ⟨h1, h2, h3, t1, h4, h5⟩ := h
    rcases List.mem_cons.1 he with rfl | he
    · exact ⟨t1, by rw [h1]; exact h4⟩
    · exact put_some (gs := gs) h5 e he
end
end Go.Proofs.YtoddlefhlicfiaaGreatDoorR.X

/- Regions that draw their order: memory, where some blocks are laid earlier than in the plan's order. -/
set_option linter.unusedSimpArgs false
set_option linter.unusedVariables false
namespace Go.Proofs.YtoddlefhlicfiaaGreatDoorR.X
open Go

section
variable {C : Cx} {B : Nat} {σ σ' σ0 : Sg} {s s' s0 : St} {w w' w0 : World}
theorem HRel.congr (he : ∀ i, i < s.nx → σ' i = σ i) (h : HRel C B σ s w) : HRel C B σ' s w := by
  refine ⟨h.big, h.lt, fun i o hi hd => ?_, fun i j hi hj e => ?_, fun g hg => ⟨(h.glob g hg).1, by rw [he g (h.glob g hg).1]; exact (h.glob g hg).2⟩⟩
  · obtain ⟨h1, o', h2, h3⟩ := h.obj i o hi hd
    have hlt := h.lt i o hi
    rw [he i hlt]
    exact ⟨h1, o', h2, h3.mono fun k hk => ⟨hk, he k hk⟩⟩
  · rw [he i (h.live_lt hi), he j (h.live_lt hj)] at e
    exact h.inj i j hi hj e
theorem HRel.live_blk (h : HRel C B σ s w) {i : Nat} (hi : Live s i) : (σ i).blk < w.heap.size := by
  obtain ⟨x, hx, hxd⟩ := hi
  obtain ⟨_, o1, h3, _⟩ := h.obj i x hx hxd
  exact (Array.getElem?_eq_some_iff.1 h3).1
theorem push_old {h : Array Obj} {o : Obj} {k : Nat} (hk : k < h.size) : (h.push o)[k]? = h[k]? := by
  rw [Array.getElem?_push_lt hk, Array.getElem?_eq_getElem hk]
theorem HRel.push {o' : Obj} (h : HRel C B σ s w) (hw : w'.heap = w.heap.push o') : HRel C B σ s w' := by
  refine ⟨by rw [hw]; have := h.big; simp; omega, h.lt, fun i o hi hd => ?_, h.inj, h.glob⟩
  obtain ⟨h1, o1, h2, h3⟩ := h.obj i o hi hd
  exact ⟨h1, o1, by rw [hw, push_old (Array.getElem?_eq_some_iff.1 h2).1]; exact h2, h3⟩
theorem Ext.push {o' : Obj} (h : Ext σ0 σ s0 s w0 w) (hh : HRel C B σ s w) (he : ∀ i, i < s.nx → σ' i = σ i) (hw : w'.heap = w.heap.push o') (hos : w'.os = w.os) (ht : w'.tape = w.tape) (hou : w'.output = w.output) : Ext σ0 σ' s0 s w0 w' := by
  refine ⟨fun i hi => (he i (Nat.lt_of_lt_of_le hi h.nx)).trans (h.sg i hi), h.nx, by rw [hw]; have := h.size; simp; omega, fun k hk hf => ?_, fun i hi => ?_, fun i hi => ?_, hos.trans h.os, ht.trans h.tape, hou.trans h.output⟩
  · rw [hw, push_old (Nat.lt_of_lt_of_le hk h.size)]; exact h.frame k hk hf
  · rw [he i (hh.live_lt hi)]; exact h.fresh i hi
  · rw [he i (hh.live_lt hi.live)]; exact h.freshW i hi
theorem Ext.congr' (he : ∀ i, i < s'.nx → σ' i = σ i) (h : Ext σ0 σ s s' w w') (hh : HRel C B σ s' w') : Ext σ0 σ' s s' w w' :=
  ⟨fun i hi => (he i (Nat.lt_of_lt_of_le hi h.nx)).trans (h.sg i hi), h.nx, h.size, h.frame, fun i hi => by rw [he i (hh.live_lt hi)]; exact h.fresh i hi, fun i hi => by rw [he i (hh.live_lt hi.live)]; exact h.freshW i hi, h.os, h.tape, h.output⟩
/-- A block that lies there already is taken in. -/
theorem HRel.adopt {ao : AO} {o' : Obj} (h : HRel C B σ s w) (hn : newO s ao = .ok (s.nx, s')) (hd : ao.isDead = false) (ho : w.heap[(σ s.nx).blk]? = some o') (hr : ORel C σ (· < s.nx) (σ s.nx) ao o') (hB : B ≤ (σ s.nx).blk)
    (hl : ∀ j, Live s j → (σ j).blk ≠ (σ s.nx).blk) : HRel C B σ s' w ∧ (∀ i, Live s' i → Live s i ∨ i = s.nx) ∧ s'.nx = s.nx + 1 ∧ (∀ i, LiveW s' i → LiveW s i ∨ i = s.nx) := by
  obtain ⟨h1, hs, h2⟩ := bnd_ok.1 hn
  injection h2 with h2
  injection h2 with _ h2
  subst h2
  obtain ⟨g1, g2⟩ := setT_ok hs
  have hlive : ∀ i, Live { h := h1, nx := s.nx + 1 } i → Live s i ∨ i = s.nx := by
    rintro i ⟨x, hx, hxd⟩
    by_cases e : i = s.nx
    · exact .inr e
    · exact .inl ⟨x, by rw [← g2 i e]; exact hx, hxd⟩
  have hliveW : ∀ i, LiveW { h := h1, nx := s.nx + 1 } i → LiveW s i ∨ i = s.nx := by
    rintro i ⟨x, hx, hxd⟩
    by_cases e : i = s.nx
    · exact .inr e
    · exact .inl ⟨x, by rw [← g2 i e]; exact hx, hxd⟩
  have hmono : ∀ i, i < s.nx → i < s.nx + 1 ∧ σ i = σ i := fun i hi => ⟨by omega, rfl⟩
  refine ⟨⟨h.big, ?_, ?_, ?_, fun g hg => ⟨by have := (h.glob g hg).1; show g < s.nx + 1; omega, (h.glob g hg).2⟩⟩, hlive, rfl, hliveW⟩
  · intro i x hx
    by_cases e : i = s.nx
    · subst e; show s.nx < s.nx + 1; omega
    · have := h.lt i x ((g2 i e).symm.trans hx); show i < s.nx + 1; omega
  · intro i x hx hxd
    by_cases e : i = s.nx
    · subst e
      rw [g1] at hx; injection hx with hx; subst hx
      exact ⟨hB, o', ho, hr.mono hmono⟩
    · have hx' : s.h.get i = some x := (g2 i e).symm.trans hx
      obtain ⟨k1, o1, k2, k3⟩ := h.obj i x hx' hxd
      exact ⟨k1, o1, k2, k3.mono hmono⟩
  · intro i j hi hj he
    rcases hlive i hi with hi | rfl <;> rcases hlive j hj with hj | rfl
    · exact h.inj i j hi hj he
    · exact absurd he (hl i hi)
    · exact absurd he.symm (hl j hj)
    · rfl
/-- what is known of a block that was laid early -/
def Early (C : Cx) (σ : Sg) (w0 w : World) (S : St) (K : Nat → Prop) (e : TE) : Prop :=
  ∃ ao, newO e.s ao = .ok (e.s.nx, e.s') ∧ ao.isDead = false ∧ w0.heap.size ≤ (σ e.s.nx).blk ∧ (∃ o', w.heap[(σ e.s.nx).blk]? = some o' ∧ ORel C σ (fun j => K j ∧ j < e.s.nx) (σ e.s.nx) ao o') ∧ (∀ j, Live S j → (σ j).blk ≠ (σ e.s.nx).blk)
theorem adopt_all {ops : List Oper} {gs : List Stage} {K : Nat → Prop} (hB : B ≤ w0.heap.size) : ∀ {es : List TE} {t tf : Tm} {s sf : St}, FCh C ops gs es t s tf sf → HRel C B σ s w → Ext σ0 σ s0 s w0 w →
    (∀ e ∈ es, e.s.nx < e.s'.nx → Early C σ w0 w s K e) → (∀ e ∈ es, ∀ e' ∈ es, e.s.nx < e.s'.nx → e'.s.nx < e'.s'.nx → (σ e.s.nx).blk = (σ e'.s.nx).blk → e.s.nx = e'.s.nx) →
    HRel C B σ sf w ∧ Ext σ0 σ s0 sf w0 w ∧ (∀ i, Live sf i → Live s i ∨ ∃ e ∈ es, e.s.nx < e.s'.nx ∧ i = e.s.nx)
  | [], t, tf, s, sf, h, hh, hx, _, _ => by
    obtain ⟨rfl, rfl⟩ := h
    exact ⟨hh, hx, fun i hi => .inl hi⟩
  | e :: es, t, tf, s, sf, h, hh, hx, hal, hdis => by
    have hw := h.wch (rest := []) trivial
    obtain ⟨h1, h2, h3, t1, h4, h5⟩ := h
    have hnx : ∀ x ∈ es, e.s'.nx ≤ x.s.nx := by
      have := WCh.nx2 (pre := []) (e := e) (post := es) (by simpa using hw)
      exact this.2
    rcases float_shape h3 with heq | hone
    · rw [← h2] at heq hh hx hal ⊢
      rw [heq] at h5
      exact (adopt_all hB h5 hh hx (fun x hx' => hal x (by simp [hx'])) (fun x hx' y hy => hdis x (by simp [hx']) y (by simp [hy]))).imp id
        (fun k => ⟨k.1, fun i hi => (k.2 i hi).imp id (fun ⟨x, q1, q2⟩ => ⟨x, by simp [q1], q2⟩)⟩)
    · subst h2
      have hlt : e.s.nx < e.s'.nx := by omega
      obtain ⟨ao, q1, q2, q3, ⟨o', q4, q5⟩, q6⟩ := hal e (by simp) hlt
      obtain ⟨r1, r2, r3, r4⟩ := hh.adopt q1 q2 q4 (q5.mono fun j hj => ⟨hj.2, rfl⟩) (Nat.le_trans hB q3) q6
      have hx1 : Ext σ0 σ s0 e.s' w0 w := by
        refine ⟨hx.sg, by have := hx.nx; omega, hx.size, hx.frame, fun i hi => ?_, fun i hi => ?_, hx.os, hx.tape, hx.output⟩
        · rcases r2 i hi with hi | rfl
          · exact hx.fresh i hi
          · exact .inr (.inl q3)
        · rcases r4 i hi with hi | rfl
          · exact hx.freshW i hi
          · exact .inr (.inl q3)
      obtain ⟨m1, m2, m3⟩ := adopt_all hB h5 r1 hx1
        (fun x hx' hxl => by
          obtain ⟨ao', p1, p2, p3, p4, p5⟩ := hal x (by simp [hx']) hxl
          refine ⟨ao', p1, p2, p3, p4, fun j hj => ?_⟩
          rcases r2 j hj with hj | rfl
          · exact p5 j hj
          · intro eq
            have := hdis e (by simp) x (by simp [hx']) hlt hxl eq
            have := hnx x hx'
            omega)
        (fun x hx' y hy => hdis x (by simp [hx']) y (by simp [hy]))
      refine ⟨m1, m2, fun i hi => ?_⟩
      rcases m3 i hi with hi | ⟨x, q1, q2⟩
      · rcases r2 i hi with hi | rfl
        · exact .inl hi
        · exact .inr ⟨e, by simp, hlt, rfl⟩
      · exact .inr ⟨x, by simp [q1], q2⟩
end

/- the order -/
theorem Ord.not_in {n : Nat} : ∀ {l : List PI} {D : Nat → Prop}, Ord n l D → ∀ p ∈ l, ¬ D p.i
  | [], D, h, p, hp => by cases hp
  | x :: l, D, h, p, hp => by
    rcases List.mem_cons.1 hp with rfl | hp
    · exact h.2.1
    · exact fun e => Ord.not_in h.2.2.2 p hp (.inl e)
theorem Ord.mem {n : Nat} : ∀ {pre : List PI} {p : PI} {post : List PI} {D : Nat → Prop}, Ord n (pre ++ p :: post) D → p.i < n ∧ ¬ D p.i ∧ (∀ j, tb p.bef j = true → D j ∨ ∃ q ∈ pre, q.i = j) ∧ (∀ q ∈ pre, q.i ≠ p.i) ∧ (∀ q ∈ post, q.i ≠ p.i)
  | [], p, post, D, h => by
    obtain ⟨h1, h2, h3, h4⟩ := h
    exact ⟨h1, h2, fun j hj => .inl (h3 j hj), fun q hq => (by cases hq), fun q hq e => Ord.not_in h4 q hq (.inr e)⟩
  | x :: pre, p, post, D, h => by
    obtain ⟨h1, h2, h3, h4⟩ := h
    obtain ⟨k1, k2, k3, k4, k5⟩ := Ord.mem h4
    refine ⟨k1, fun e => k2 (.inl e), fun j hj => ?_, fun q hq => ?_, k5⟩
    · rcases k3 j hj with (hj | rfl) | ⟨q, q1, q2⟩
      · exact .inl hj
      · exact .inr ⟨x, by simp, rfl⟩
      · exact .inr ⟨q, by simp [q1], q2⟩
    · rcases List.mem_cons.1 hq with rfl | hq
      · exact fun e => k2 (.inr e.symm)
      · exact k4 q hq
theorem Ord.total {n : Nat} : ∀ {l : List PI} {D : Nat → Prop}, Ord n l D → ∀ j, j < n → D j ∨ ∃ p ∈ l, p.i = j
  | [], D, h, j, hj => .inl (h j hj)
  | p :: ps, D, h, j, hj => by
    rcases h.2.2.2.total j hj with (h1 | rfl) | ⟨q, q1, q2⟩
    · exact .inl h1
    · exact .inr ⟨p, by simp, rfl⟩
    · exact .inr ⟨q, by simp [q1], q2⟩
theorem Ord.drop {n : Nat} : ∀ {l1 l2 : List PI} {D : Nat → Prop}, Ord n (l1 ++ l2) D → Ord n l2 (fun j => D j ∨ ∃ p ∈ l1, p.i = j)
  | [], l2, D, h => Ord.congr (fun j => by simp) h
  | p :: l1, l2, D, h => by
    refine Ord.congr (fun j => ?_) h.2.2.2.drop
    simp only [List.mem_cons]
    constructor
    · rintro ((h | rfl) | ⟨q, q1, q2⟩)
      · exact .inl h
      · exact .inr ⟨p, .inl rfl, rfl⟩
      · exact .inr ⟨q, .inr q1, q2⟩
    · rintro (h | ⟨q, (rfl | q1), q2⟩)
      · exact .inl (.inl h)
      · exact .inl (.inr q2.symm)
      · exact .inr ⟨q, q1, q2⟩
theorem SegP.pred : ∀ {rest : List (List PI × PI)} {fl : List PI} {w : PI}, SegP ((fl, w) :: rest) → ∀ x ∈ rest, ∃ y ∈ (fl, w) :: rest, tb x.2.bef y.2.i = true
  | [], fl, w, h, x, hx => by cases hx
  | (f2, w2) :: rest, fl, w, h, x, hx => by
    obtain ⟨_, _, h3, h4⟩ := h
    rcases List.mem_cons.1 hx with rfl | hx
    · exact ⟨(fl, w), by simp, h3⟩
    · obtain ⟨y, k1, k2⟩ := SegP.pred h4 x hx
      exact ⟨y, by simp only [List.mem_cons] at k1 ⊢; exact .inr k1, k2⟩
theorem SegP.writer : ∀ {segs : List (List PI × PI)}, SegP segs → ∀ x ∈ segs, isWrite x.2.cls = true ∧ ∀ p ∈ x.1, isWrite p.cls = false
  | [], h, x, hx => by cases hx
  | (fl, w) :: rest, h, x, hx => by
    rcases List.mem_cons.1 hx with rfl | hx
    · exact ⟨h.2.1, fun p hp => (h.1 p hp).1⟩
    · exact SegP.writer h.2.2.2 x hx
theorem flatE_mem {last : List TE} : ∀ {segs : List (List TE × TE)} {e : TE}, e ∈ flatE last segs → e ∈ last ∨ ∃ x ∈ segs, e ∈ x.1 ∨ e = x.2
  | [], e, h => .inl h
  | (fl, w) :: rest, e, h => by
    simp only [flatE] at h
    rcases List.mem_append.1 h with h | h
    · exact .inr ⟨(fl, w), by simp, .inl h⟩
    · rcases List.mem_cons.1 h with rfl | h
      · exact .inr ⟨(fl, e), by simp, .inr rfl⟩
      · rcases flatE_mem h with h | ⟨x, h1, h2⟩
        · exact .inl h
        · exact .inr ⟨x, by simp [h1], h2⟩
theorem flatE_writer {last : List TE} : ∀ {segs : List (List TE × TE)}, ∀ x ∈ segs, x.2 ∈ flatE last segs
  | [], x, h => by cases h
  | (fl, w) :: rest, x, h => by
    simp only [flatE]
    rcases List.mem_cons.1 h with rfl | h
    · simp
    · have := flatE_writer (last := last) x h; simp [this]
/- what is listed -/
def Lst (listed : Array Bool) (i : Nat) : Prop := listed.getD i false = true
theorem lst_set {listed : Array Bool} {i j : Nat} (hi : i < listed.size) : Lst (listed.setIfInBounds i true) j ↔ Lst listed j ∨ j = i := by
  unfold Lst
  by_cases e : i = j
  · subst e; simp [hi]
  · rw [getD_set_ne false e]; simp [Ne.symm e]
theorem count_set : ∀ (l : List Bool) (i : Nat), l[i]? = some false → l.count false = (l.set i true).count false + 1
  | [], i, h => by simp at h
  | b :: l, 0, h => by simp at h; subst h; simp
  | b :: l, i + 1, h => by
    simp at h
    have := count_set l i (by simpa using h)
    simp only [List.set_cons_succ, List.count_cons, this]
    omega
theorem count_zero {l : List Bool} (h : l.count false = 0) (i : Nat) (hi : i < l.length) : l[i]? = some true := by
  have := List.count_eq_zero.1 h
  cases hx : l[i] with
  | true => rw [List.getElem?_eq_getElem hi, hx]
  | false => exact absurd (hx ▸ List.getElem_mem hi) this
theorem count_pos {l : List Bool} (h : 0 < l.count false) : ∃ i, i < l.length ∧ l[i]? = some false := by
  obtain ⟨i, hi, e⟩ := List.getElem_of_mem (List.count_pos_iff.1 h)
  exact ⟨i, hi, by rw [List.getElem?_eq_getElem hi, e]⟩
end Go.Proofs.YtoddlefhlicfiaaGreatDoorR.X

/- Regions that draw their order: whatever is drawn, the model comes where the plan's order comes. -/
set_option linter.unusedSimpArgs false
set_option linter.unusedVariables false
namespace Go.Proofs.YtoddlefhlicfiaaGreatDoorR.X
open Go

/-- the blocks that values may speak of -/
def Kn (listed : Array Bool) (rem : List TE) (S : St) (i : Nat) : Prop := i < S.nx ∨ ∃ e ∈ rem, Lst listed e.p.i ∧ e.s.nx < e.s'.nx ∧ e.s.nx = i
structure Inv (C : Cx) (B : Nat) (rec : Rec) (ops : List Oper) (bef : List Nat) (last : List TE) (tf : Tm) (sf : St) (σ0 : Sg) (s0 : St) (w0 : World) (a0 : Act)
    (listed : Array Bool) (segs : List (List TE × TE)) (T : Tm) (S : St) (gs : List Stage) (σ : Sg) (a : Act) (w : World) : Prop where
  size : listed.size = ops.length
  run : SCh C rec ops last segs T S gs tf sf
  stage : ∃ wr gs', gs = { w := wr, s := S } :: gs'
  ord : ∃ D : Nat → Prop, Ord ops.length ((flatE last segs).map (·.p)) D ∧ ∀ j, D j → Lst listed j
  closed : ∀ k j, Lst listed k → tb (bef.getD k 0) j = true → Lst listed j
  one : ∀ e ∈ flatE last segs, One C ops bef e.p
  seg : SegP (segs.map fun x => (x.1.map (·.p), x.2.p))
  lastf : ∀ e ∈ last, isWrite e.p.cls = false
  tmp : TmpP ops ((flatE last segs).map (·.p))
  wr : ∀ x ∈ segs, ¬ Lst listed x.2.p.i
  hrel : HRel C B σ S w
  ext : Ext σ0 σ s0 S w0 w
  tm : ∀ d v, Tm.get T d = some v → (∀ e ∈ flatE last segs, Lst listed e.p.i → e.p.o.dst ≠ some d) → ∃ v', a.tmps[d]? = some v' ∧ VRel σ (· < S.nx) v v'
  tm2 : ∀ e ∈ flatE last segs, Lst listed e.p.i → ∀ d, e.p.o.dst = some d → ∃ v', a.tmps[d]? = some v' ∧ VRel σ (fun j => Kn listed (flatE last segs) S j ∧ j < e.s'.nx) e.v v'
  al : ∀ e ∈ flatE last segs, Lst listed e.p.i → e.s.nx < e.s'.nx → Early C σ w0 w S (Kn listed (flatE last segs) S) e
  al2 : ∀ e ∈ flatE last segs, ∀ e' ∈ flatE last segs, Lst listed e.p.i → Lst listed e'.p.i → e.s.nx < e.s'.nx → e'.s.nx < e'.s'.nx → (σ e.s.nx).blk = (σ e'.s.nx).blk → e.s.nx = e'.s.nx
  defers : a.defers = a0.defers

section
variable {C : Cx} (ok : CxOk C) (hN : NameOk C.P) (hI : IntrOk C) {rec : Rec} (hR : RecOk C rec) {B : Nat} {ops : Array Oper} {bef : List Nat} {last : List TE} {tf : Tm} {sf : St} {σ0 : Sg} {s0 : St} {w0 : World} {a0 : Act}
variable {listed : Array Bool} {segs : List (List TE × TE)} {T : Tm} {S : St} {gs : List Stage} {σ : Sg} {a : Act} {w : World}

/-- An entry that may come up: what it stands behind is done, and what it reads is known. -/
theorem Inv.ready (h : Inv C B rec ops.toList bef last tf sf σ0 s0 w0 a0 listed segs T S gs σ a w) {pre : List TE} {e : TE} {post : List TE} (hsp : flatE last segs = pre ++ e :: post) (hun : ¬ Lst listed e.p.i)
    (hed : ∀ x ∈ e.p.o.after, Region.binds .any x = true → Lst listed x.on) :
    (∀ j, tb e.p.bef j = true → Lst listed j) ∧ ERel σ (fun j => Kn listed (flatE last segs) S j ∧ j < e.s.nx) (restr (readsOf ops.toList e.p.o) (evalA C.G e.t)) a := by
  have he : e ∈ flatE last segs := by rw [hsp]; simp
  have hone := h.one e he
  have hbef : ∀ j, tb e.p.bef j = true → Lst listed j := by
    intro j hj
    rw [← hone.mask] at hj
    obtain ⟨x, hx, hb, hor⟩ := (edgeMask_ok bef e.p.o j).1 hj
    have hl := hed x hx hb
    rcases hor with rfl | hor
    · exact hl
    · exact h.closed _ _ hl hor
  obtain ⟨D, hord, hD⟩ := h.ord
  have hwch := h.run.wch
  have hnx := hwch.nx
  rw [hsp] at hwch
  obtain ⟨nx1, nx2⟩ := hwch.nx2
  have hord' := hord
  rw [hsp, List.map_append, List.map_cons] at hord'
  obtain ⟨o1, o2, o3, o4, o5⟩ := hord'.mem
  -- an entry of the plan that is named stands in the order
  have named : ∀ x ∈ flatE last segs, x.p.i ≠ e.p.i → ∀ d, x.p.o.dst = some d → d ∈ readsOf ops.toList e.p.o → tb e.p.bef x.p.i = true ∨ tb x.p.bef e.p.i = true := fun x hx hne d hd hm =>
    (h.tmp e.p (List.mem_map.2 ⟨e, he, rfl⟩) x.p (List.mem_map.2 ⟨x, hx, rfl⟩) (fun q => hne q.symm) d hd).1 hm
  refine ⟨hbef, fun x v hx => ?_⟩
  cases x with
  | const c => obtain ⟨rfl, h1⟩ := constA_ok (show constA c = .ok v from hx); exact .flat h1
  | global g =>
    have hx : evalA C.G e.t (.global g) = .ok v := hx
    simp only [evalA] at hx
    split at hx
    · rename_i hb
      rw [blt_nat] at hb
      simp only [decide_eq_true_eq] at hb
      obtain ⟨g1, g2⟩ := h.hrel.glob g hb
      simp at hx; subst hx
      have := VRel.ptr (σ := σ) (D := fun j => Kn listed (flatE last segs) S j ∧ j < e.s.nx) (b := g) (o := 0) ⟨.inl g1, Nat.lt_of_lt_of_le g1 (hnx e he).1⟩
      rw [g2] at this; exact this
    · cases hx
  | func f => simp [restr, evalA] at hx; subst hx; exact .func rfl (fun i v v' h => by simp at h) rfl (fun i v v' h => by simp at h)
  | tmp d =>
    simp only [restr] at hx
    split at hx
    · rename_i hm
      have hm := memT_ok.1 hm
      have hget := some_ok.1 (show some! "undefined tmp" (Tm.get e.t d) = .ok v from hx)
      have close : (∃ v', a.tmps[d]? = some v' ∧ VRel σ (fun j => Kn listed (flatE last segs) S j ∧ j < e.s.nx) v v') → VRel σ (fun j => Kn listed (flatE last segs) S j ∧ j < e.s.nx) v (a.eval (.tmp d)) := by
        rintro ⟨v', k1, k2⟩
        have : a.eval (.tmp d) = v' := by simp only [Act.eval, Array.getD_eq_getD_getElem?, k1, Option.getD_some]
        rw [this]; exact k2
      refine close ?_
      rcases WCh.get hwch d v hget with ⟨k1, k2⟩ | ⟨x, k1, k2, k3⟩
      · -- nothing ahead of it writes this one
        obtain ⟨v', m1, m2⟩ := h.tm d v k1 (fun x hx hxl hxd => by
          have hne : x.p.i ≠ e.p.i := fun q => hun (q ▸ hxl)
          rcases named x hx hne d hxd hm with hb | hb
          · rcases o3 _ hb with hb | ⟨q, hq, hqi⟩
            · -- done before the plan's rest: no entry of the rest
              exact Ord.not_in hord x.p (List.mem_map.2 ⟨x, hx, rfl⟩) hb
            · obtain ⟨y, hy, rfl⟩ := List.mem_map.1 hq
              have hyx : y.p.o.dst = some d := by
                by_cases hxy : y = x
                · rw [hxy]; exact hxd
                · -- the same index: the same entry
                  have : y.p.o = x.p.o := by
                    have e1 := (h.one y (by rw [hsp]; simp [hy])).op
                    have e2 := (h.one x hx).op
                    rw [hqi] at e1
                    exact Option.some.inj (e1.symm.trans e2)
                  rw [this]; exact hxd
              exact k2 y hy hyx
          · have hc := h.closed x.p.i e.p.i hxl (by rw [(h.one x hx).at_]; exact hb)
            exact hun hc)
        exact ⟨v', m1, m2.mono fun j hj => ⟨⟨.inl hj, Nat.lt_of_lt_of_le hj (hnx e he).1⟩, rfl⟩⟩
      · have hx : x ∈ flatE last segs := by rw [hsp]; simp [k1]
        have hne : x.p.i ≠ e.p.i := o4 _ (List.mem_map.2 ⟨x, k1, rfl⟩)
        have hxl : Lst listed x.p.i := by
          rcases named x hx hne d k2 hm with hb | hb
          · exact hbef _ hb
          · -- e stands behind x, and x behind e: no
            exfalso
            obtain ⟨p1, p2, rfl⟩ := List.append_of_mem k1
            have hord2 := hord
            rw [hsp, List.map_append, List.map_cons, List.map_append, List.map_cons, List.append_assoc, List.cons_append] at hord2
            obtain ⟨q1, q2, q3, q4, q5⟩ := hord2.mem
            rcases q3 _ hb with hb | ⟨y, hy, hyi⟩
            · exact o2 hb
            · obtain ⟨z, hz, rfl⟩ := List.mem_map.1 hy
              exact o4 z.p (List.mem_map.2 ⟨z, by simp [hz], rfl⟩) hyi
        obtain ⟨v', m1, m2⟩ := h.tm2 x hx hxl d k2
        rw [k3] at m2
        have := nx1 x k1
        exact ⟨v', m1, m2.mono fun j hj => ⟨⟨hj.1, by have := hj.2; omega⟩, rfl⟩⟩
    · simp at hx
/-- Where all is done. -/
theorem Inv.done (h : Inv C B rec ops.toList bef last tf sf σ0 s0 w0 a0 listed segs T S gs σ a w) (hall : ∀ j, j < ops.size → Lst listed j) (hB : B ≤ w0.heap.size) {Q : Exit → Act → World → Prop}
    (hq : ∀ σ' w' tmps', HRel C B σ' sf w' → Ext σ0 σ' s0 sf w0 w' → TRel σ' (· < sf.nx) tf tmps' → Q .normal { a0 with tmps := tmps' } w') : Q .normal a w := by
  have hidx : ∀ e ∈ flatE last segs, Lst listed e.p.i := fun e he => by
    obtain ⟨D, hord, _⟩ := h.ord
    have hm := List.mem_map_of_mem (f := (·.p)) he
    obtain ⟨p1, p2, hp⟩ := List.append_of_mem hm
    rw [hp] at hord
    have := hord.mem.1
    exact hall _ (by simpa using this)
  cases hsegs : segs with
  | cons x rest =>
    exfalso
    have hx : x ∈ segs := by rw [hsegs]; simp
    exact h.wr x hx (hidx _ (flatE_writer x hx))
  | nil =>
    subst hsegs
    have hrun : FCh C ops.toList gs last T S tf sf := h.run
    obtain ⟨m1, m2, m3⟩ := adopt_all hB hrun h.hrel h.ext (fun e he hl => h.al e he (hidx e he) hl) (fun e he e' he' h1 h2 => h.al2 e he e' he' (hidx e he) (hidx e' he') h1 h2)
    have hwch := hrun.wch (rest := []) trivial
    rw [List.append_nil] at hwch
    have hmono : S.nx ≤ sf.nx ∧ ∀ e ∈ last, e.s'.nx ≤ sf.nx := by
      have gen : ∀ {es : List TE} {t tf : Tm} {s sf : St}, FCh C ops.toList gs es t s tf sf → s.nx ≤ sf.nx ∧ ∀ e ∈ es, e.s'.nx ≤ sf.nx := by
        intro es
        induction es with
        | nil => intro t tf s sf hf; obtain ⟨rfl, rfl⟩ := hf; exact ⟨Nat.le_refl _, fun e he => (by cases he)⟩
        | cons y es ih =>
          intro t tf s sf hf
          obtain ⟨h1, h2, h3, t1, h4, h5⟩ := hf
          obtain ⟨k1, k2⟩ := ih h5
          have hle : s.nx ≤ y.s'.nx := by
            rcases float_shape h3 with e | e
            · rw [e]; exact Nat.le_refl _
            · omega
          refine ⟨Nat.le_trans hle k1, fun e he => ?_⟩
          rcases List.mem_cons.1 he with rfl | he
          · exact k1
          · exact k2 e he
      exact gen hrun
    have ht : TRel σ (· < sf.nx) tf a.tmps := by
      intro d v hv
      rcases FCh.get hrun d v hv with ⟨k1, k2⟩ | ⟨x, k1, k2, k3⟩
      · obtain ⟨v', q1, q2⟩ := h.tm d v k1 (fun e he _ => k2 e he)
        exact ⟨v', q1, q2.mono fun j hj => ⟨Nat.lt_of_lt_of_le hj hmono.1, rfl⟩⟩
      · obtain ⟨v', q1, q2⟩ := h.tm2 x k1 (hidx x k1) d k2
        rw [k3] at q2
        have := hmono.2 x k1
        exact ⟨v', q1, q2.mono fun j hj => ⟨by have := hj.2; omega, rfl⟩⟩
    have ea : a = { a0 with tmps := a.tmps } := by
      have := h.defers
      cases a; cases a0; simp at this; simp [this]
    rw [ea]
    exact hq σ w a.tmps m1 m2 ht
end
end Go.Proofs.YtoddlefhlicfiaaGreatDoorR.X

/- Regions that draw their order: one operation that is no writer. -/
set_option linter.unusedSimpArgs false
set_option linter.unusedVariables false
namespace Go.Proofs.YtoddlefhlicfiaaGreatDoorR.X
open Go

section
variable {C : Cx} {rec : Rec} {B : Nat} {ops : Array Oper} {bef : List Nat} {last : List TE} {tf : Tm} {sf : St} {σ0 : Sg} {s0 : St} {w0 : World} {a0 : Act}
variable {listed : Array Bool} {segs : List (List TE × TE)} {T : Tm} {S : St} {gs : List Stage} {σ σ' : Sg} {a : Act} {w w' : World}

/-- one index, one entry -/
theorem Inv.same (h : Inv C B rec ops.toList bef last tf sf σ0 s0 w0 a0 listed segs T S gs σ a w) {e e' : TE} (he : e ∈ flatE last segs) (he' : e' ∈ flatE last segs) (hi : e.p.i = e'.p.i) : e = e' := by
  obtain ⟨D, hord, _⟩ := h.ord
  obtain ⟨pre, post, hsp⟩ := List.append_of_mem he
  rw [hsp] at he'
  rw [hsp, List.map_append, List.map_cons] at hord
  obtain ⟨_, _, _, o4, o5⟩ := hord.mem
  rcases List.mem_append.1 he' with hm | hm
  · exact absurd hi.symm (o4 _ (List.mem_map.2 ⟨_, hm, rfl⟩))
  · rcases List.mem_cons.1 hm with rfl | hm
    · rfl
    · exact absurd hi.symm (o5 _ (List.mem_map.2 ⟨_, hm, rfl⟩))
theorem Inv.lt (h : Inv C B rec ops.toList bef last tf sf σ0 s0 w0 a0 listed segs T S gs σ a w) {e : TE} (he : e ∈ flatE last segs) : e.p.i < listed.size := by
  obtain ⟨D, hord, _⟩ := h.ord
  obtain ⟨p1, p2, hp⟩ := List.append_of_mem (List.mem_map_of_mem (f := (·.p)) he)
  rw [hp] at hord
  have := hord.mem.1
  rw [h.size]; exact this
theorem kn_mono {listed listed' : Array Bool} {rem : List TE} (hm : ∀ j, Lst listed j → Lst listed' j) {i : Nat} (h : Kn listed rem S i) : Kn listed' rem S i :=
  h.imp id fun ⟨e, h1, h2, h3⟩ => ⟨e, h1, hm _ h2, h3⟩
/-- writes to another temporary are not seen -/
theorem put_other {dst : Option Tmp} {d : Tmp} {v : Value} (h : dst ≠ some d) : (a.put dst v).tmps[d]? = a.tmps[d]? := by
  cases dst with
  | none => rfl
  | some x =>
    simp only [Act.put]
    rw [Array.getElem?_setIfInBounds_ne (fun e => h (by rw [e]))]
theorem put_same {d : Tmp} {v u : Value} (h : a.tmps[d]? = some u) : (a.put (some d) v).tmps[d]? = some v := by
  have hlt := (Array.getElem?_eq_some_iff.1 h).1
  simp [Act.put, hlt]
/-- where an entry's temporary lies -/
theorem Inv.bound (h : Inv C B rec ops.toList bef last tf sf σ0 s0 w0 a0 listed segs T S gs σ a w) {e : TE} (he : e ∈ flatE last segs) (hun : ¬ Lst listed e.p.i) {d : Tmp} (hd : e.p.o.dst = some d) : ∃ u, a.tmps[d]? = some u := by
  have hwch := h.run.wch
  obtain ⟨t1, ht1⟩ := put_some (gs := gs) hwch e he
  obtain ⟨pre, post, hsp⟩ := List.append_of_mem he
  rcases put_get ht1 d with ⟨_, _, hs⟩ | ⟨hne, _⟩
  · obtain ⟨x, hx⟩ := Option.isSome_iff_exists.1 hs
    have other : ∀ y ∈ flatE last segs, y.p.i ≠ e.p.i → y.p.o.dst ≠ some d := fun y hy hne hyd =>
      (h.tmp e.p (List.mem_map.2 ⟨e, he, rfl⟩) y.p (List.mem_map.2 ⟨y, hy, rfl⟩) (fun q => hne q.symm) d hyd).2 hd
    rw [hsp] at hwch
    rcases WCh.get hwch d x hx with ⟨k1, k2⟩ | ⟨y, k1, k2, k3⟩
    · obtain ⟨v', m1, _⟩ := h.tm d x k1 (fun y hy hyl => other y hy (fun q => hun (q ▸ hyl)))
      exact ⟨v', m1⟩
    · obtain ⟨D, hord, _⟩ := h.ord
      rw [hsp, List.map_append, List.map_cons] at hord
      obtain ⟨_, _, _, o4, _⟩ := hord.mem
      exact absurd k2 (other y (by rw [hsp]; simp [k1]) (o4 _ (List.mem_map.2 ⟨y, k1, rfl⟩)))
  · exact absurd hd hne
/-- One more entry, no writer, is done. -/
theorem Inv.step (h : Inv C B rec ops.toList bef last tf sf σ0 s0 w0 a0 listed segs T S gs σ a w) {e : TE} (he : e ∈ flatE last segs) (hfl : isWrite e.p.cls = false) (hun : ¬ Lst listed e.p.i) (hbef : ∀ j, tb e.p.bef j = true → Lst listed j)
    {v' : Value} (hσ : ∀ j, Kn listed (flatE last segs) S j → σ' j = σ j) (hh : HRel C B σ' S w') (hx : Ext σ0 σ' s0 S w0 w')
    (hv : VRel σ' (fun j => Kn (listed.setIfInBounds e.p.i true) (flatE last segs) S j ∧ j < e.s'.nx) e.v v')
    (hal : ∀ x ∈ flatE last segs, Lst listed x.p.i → x.s.nx < x.s'.nx → Early C σ' w0 w' S (Kn (listed.setIfInBounds e.p.i true) (flatE last segs) S) x)
    (hale : e.s.nx < e.s'.nx → Early C σ' w0 w' S (Kn (listed.setIfInBounds e.p.i true) (flatE last segs) S) e)
    (hdis : ∀ x ∈ flatE last segs, Lst listed x.p.i → x.s.nx < x.s'.nx → e.s.nx < e.s'.nx → (σ' x.s.nx).blk ≠ (σ' e.s.nx).blk) :
    Inv C B rec ops.toList bef last tf sf σ0 s0 w0 a0 (listed.setIfInBounds e.p.i true) segs T S gs σ' (a.put e.p.o.dst v') w' := by
  have hset : ∀ j, Lst (listed.setIfInBounds e.p.i true) j ↔ Lst listed j ∨ j = e.p.i := fun j => lst_set (h.lt he)
  have hup : ∀ j, Lst listed j → Lst (listed.setIfInBounds e.p.i true) j := fun j hj => (hset j).2 (.inl hj)
  have which : ∀ x ∈ flatE last segs, Lst (listed.setIfInBounds e.p.i true) x.p.i → Lst listed x.p.i ∨ x = e := fun x hx' hl => by
    rcases (hset _).1 hl with hl | hl
    · exact .inl hl
    · exact .inr (h.same hx' he hl)
  refine ⟨by rw [Array.size_setIfInBounds]; exact h.size, h.run, h.stage, ?_, ?_, h.one, h.seg, h.lastf, h.tmp, ?_, hh, hx, ?_, ?_, ?_, ?_, ?_⟩
  · obtain ⟨D, h1, h2⟩ := h.ord
    exact ⟨D, h1, fun j hj => hup j (h2 j hj)⟩
  · intro k j hk hj
    rcases (hset k).1 hk with hk | rfl
    · exact hup _ (h.closed k j hk hj)
    · rw [(h.one e he).at_] at hj
      exact hup _ (hbef j hj)
  · intro x hxs hl
    have hxm : x.2 ∈ flatE last segs := flatE_writer x hxs
    rcases which x.2 hxm hl with hl | hl
    · exact h.wr x hxs hl
    · have := (SegP.writer h.seg (x.1.map (·.p), x.2.p) (List.mem_map.2 ⟨x, hxs, rfl⟩)).1
      rw [hl, hfl] at this; cases this
  · intro d v hd hno
    obtain ⟨u, k1, k2⟩ := h.tm d v hd (fun y hy hl => hno y hy (hup _ hl))
    refine ⟨u, ?_, k2.mono fun j hj => ⟨hj, hσ j (.inl hj)⟩⟩
    rw [put_other (hno e he ((hset _).2 (.inr rfl)))]; exact k1
  · intro y hy hl d hd
    rcases which y hy hl with hl | rfl
    · obtain ⟨u, k1, k2⟩ := h.tm2 y hy hl d hd
      have hne : e.p.i ≠ y.p.i := fun q => hun (q ▸ hl)
      have := (h.tmp e.p (List.mem_map.2 ⟨e, he, rfl⟩) y.p (List.mem_map.2 ⟨y, hy, rfl⟩) hne d hd).2
      refine ⟨u, by rw [put_other this]; exact k1, k2.mono fun j hj => ⟨⟨kn_mono hup hj.1, hj.2⟩, hσ j hj.1⟩⟩
    · obtain ⟨u, hu⟩ := h.bound he hun hd
      rw [hd]
      exact ⟨v', put_same hu, hv⟩
  · intro y hy hl hlt
    rcases which y hy hl with hl | rfl
    · exact hal y hy hl hlt
    · exact hale hlt
  · intro y hy z hz hyl hzl hylt hzlt heq
    rcases which y hy hyl with hy1 | hy1 <;> rcases which z hz hzl with hz1 | hz1
    · have e1 := hσ y.s.nx (.inr ⟨y, hy, hy1, hylt, rfl⟩)
      have e2 := hσ z.s.nx (.inr ⟨z, hz, hz1, hzlt, rfl⟩)
      rw [e1, e2] at heq
      exact h.al2 y hy z hz hy1 hz1 hylt hzlt heq
    · rw [hz1] at heq hzlt
      exact absurd heq (hdis y hy hy1 hylt hzlt)
    · rw [hy1] at heq hylt
      exact absurd heq.symm (hdis z hz hz1 hzlt hylt)
    · rw [hy1, hz1]
  · rw [put_defers]; exact h.defers
theorem early_mono {K K' : Nat → Prop} {e : TE} (hK : ∀ j, K j → K' j ∧ σ' j = σ j) (hke : σ' e.s.nx = σ e.s.nx) (hS : ∀ j, Live S j → σ' j = σ j) (hw : ∀ (o : Obj), w.heap[(σ e.s.nx).blk]? = some o → w'.heap[(σ e.s.nx).blk]? = some o) (h : Early C σ w0 w S K e) : Early C σ' w0 w' S K' e := by
  obtain ⟨ao, h1, h2, h3, ⟨o', h4, h5⟩, h6⟩ := h
  refine ⟨ao, h1, h2, by rw [hke]; exact h3, ⟨o', by rw [hke]; exact hw _ h4, by rw [hke]; exact h5.mono fun j hj => ⟨⟨(hK j hj.1).1, hj.2⟩, (hK j hj.1).2⟩⟩, fun j hj => by rw [hke, hS j hj]; exact h6 j hj⟩
/-- An operation that is no writer. -/
theorem Inv.float (ok : CxOk C) {F : Fence} (hF : WideF F) {n : Nat} {Q : Exit → Act → World → Prop} {K : Act → World → Prop} (h : Inv C B rec ops.toList bef last tf sf σ0 s0 w0 a0 listed segs T S gs σ a w) {pre : List TE} {e : TE} {post : List TE}
    (hsp : flatE last segs = pre ++ e :: post) (hfl : isWrite e.p.cls = false) (hun : ¬ Lst listed e.p.i) (hed : ∀ x ∈ e.p.o.after, Region.binds .any x = true → Lst listed x.on)
    (hK : ∀ σ' a' w', Inv C B rec ops.toList bef last tf sf σ0 s0 w0 a0 (listed.setIfInBounds e.p.i true) segs T S gs σ' a' w' → K a' w') : wpOpIn F n C.P ops Q e.p.i K a w := by
  obtain ⟨hbef, her⟩ := h.ready hsp hun hed
  have he : e ∈ flatE last segs := by rw [hsp]; simp
  have hone := h.one e he
  have hset : ∀ j, Lst (listed.setIfInBounds e.p.i true) j ↔ Lst listed j ∨ j = e.p.i := fun j => lst_set (h.lt he)
  have hup : ∀ j, Lst listed j → Lst (listed.setIfInBounds e.p.i true) j := fun j hj => (hset j).2 (.inl hj)
  have hwch := h.run.wch
  have hnx := hwch.nx
  rw [hsp] at hwch
  obtain ⟨nx1, nx2⟩ := hwch.nx2
  obtain ⟨ws, hat, hws⟩ := h.run.at_ e he (fun fw hfw heq => by
    have := (SegP.writer h.seg (fw.1.map (·.p), fw.2.p) (List.mem_map.2 ⟨fw, hfw, rfl⟩)).1
    rw [← heq, hfl] at this; cases this)
  have hop : ops[e.p.i]? = some e.p.o := by have := hone.op; simpa using this
  unfold wpOpIn
  rw [hop]
  simp only []
  unfold floatA at hat
  obtain ⟨b, hb, hat⟩ := bnd_ok.1 hat
  rw [restr_wanted] at hb
  rw [wanted_ok her hb]
  -- the same memory
  have still : ∀ v', e.s' = e.s → VRel σ (fun j => Kn listed (flatE last segs) S j ∧ j < e.s.nx) e.v v' → K (a.put e.p.o.dst v') w := by
    intro v' hs hv
    refine hK σ _ w (h.step he hfl hun hbef (fun _ _ => rfl) h.hrel h.ext (hv.mono fun j hj => ⟨⟨kn_mono hup hj.1, by rw [hs]; exact hj.2⟩, rfl⟩)
      (fun x hx hl hlt => early_mono (fun j hj => ⟨kn_mono hup hj, rfl⟩) rfl (fun _ _ => rfl) (fun _ ho => ho) (h.al x hx hl hlt)) (fun hlt => ?_) (fun x hx hl hlt hlt' => ?_))
    · rw [hs] at hlt; omega
    · rw [hs] at hlt'; omega
  cases b with
  | false =>
    simp at hat
    simp only [Bool.false_eq_true, if_false]
    exact ⟨about_wide hF, still _ hat.2.symm (by rw [← hat.1]; exact undef_rel)⟩
  | true =>
    simp only [if_true]
    simp only [] at hat
    have hnd : ∀ c, e.p.o.op ≠ .defer c := fun c eq => by
      have := hone.cls
      rw [eq] at this
      simp [clsOf] at this
      rw [← this] at hfl; cases hfl
    have value : ∀ {v' : Value} {w' : World}, (execOp a.eval e.p.o).run C.P w = .ok (.value v') w' → K (a.put e.p.o.dst v') w' → e.p.o.wpIn F n C.P a w K Q := by
      intro v' w' hr hk
      refine ⟨fun f _ => hF.fn f, ?_⟩
      rw [Oper.semAt_plain F _ _ hnd, hr]
      exact hk
    split at hat
    · -- a read
      rename_i hcls
      obtain ⟨v, hv, hat⟩ := bnd_ok.1 hat
      simp at hat
      obtain ⟨rfl, hs⟩ := hat
      obtain ⟨wr, gs', hgs⟩ := h.stage
      rw [hgs] at hv
      have hread := readAll_skip hv (fun x hx => by
        obtain ⟨fw, k1, k2⟩ := hws x hx
        refine ⟨_, k2, ?_⟩
        cases hb : tb e.p.bef fw.2.p.i with
        | false => rfl
        | true => exact absurd (hbef _ hb) (h.wr fw k1))
      simp only [fstA] at hread
      obtain ⟨⟨v2, s2⟩, hs2, hv2⟩ := bnd_ok.1 hread
      injection hv2 with hv2; subst hv2
      rw [simpleA_congr e.p.o.op (restr_op (ops := ops.toList))] at hs2
      have hcl := hone.cls
      rw [hcls] at hcl
      obtain ⟨v', k1, k2⟩ := class_read ok her h.hrel hcl hs2
      exact value k2 (still v' hs.symm (k1.mono fun j hj => ⟨⟨.inl hj, Nat.lt_of_lt_of_le hj (hnx e he).1⟩, rfl⟩))
    · -- pure
      rename_i hcls
      obtain ⟨v, hv, hat⟩ := bnd_ok.1 hat
      simp at hat
      obtain ⟨rfl, hs⟩ := hat
      simp only [fstA] at hv
      obtain ⟨⟨v2, s2⟩, hs2, hv2⟩ := bnd_ok.1 hv
      injection hv2 with hv2; subst hv2
      rw [simpleA_congr e.p.o.op (restr_op (ops := ops.toList))] at hs2
      have hcl := hone.cls
      rw [hcls] at hcl
      obtain ⟨v', k1, k2⟩ := class_pure ok her hcl hs2
      exact value (k2 w) (still v' hs.symm k1)
    · -- a new block
      rename_i hcls
      obtain ⟨⟨v, s2⟩, hs2, hat⟩ := bnd_ok.1 hat
      simp only [] at hat
      split at hat
      · rename_i hnxs
        have hnxs := Nat.eq_of_beq_eq_true hnxs
        simp at hat
        obtain ⟨rfl, rfl⟩ := hat
        rw [simpleA_congr e.p.o.op (restr_op (ops := ops.toList))] at hs2
        have hcl := hone.cls
        rw [hcls] at hcl
        obtain ⟨ao, hd, hn, hall⟩ := class_alloc ok her hcl hs2
        obtain ⟨o', sz, v', w', r1, r2, r3, r4, r5, r6, r7⟩ := hall w
        refine value r1 ?_
        -- its number is new
        have hnew : ∀ j, Kn listed (flatE last segs) S j → j ≠ e.s.nx := by
          rintro j (hj | ⟨x, hx, hl, hlt, rfl⟩) heq
          · have := (hnx e he).1; omega
          · have hne : x ≠ e := fun q => hun (q ▸ hl)
            rw [hsp] at hx
            rcases List.mem_append.1 hx with hx | hx
            · have := nx1 x hx; omega
            · rcases List.mem_cons.1 hx with rfl | hx
              · exact hne rfl
              · have := nx2 x hx; omega
        have hσ : ∀ j, Kn listed (flatE last segs) S j → more σ e.s.nx ⟨w.heap.size, sz⟩ j = σ j := fun j hj => more_other σ _ (hnew j hj)
        have hσS : ∀ j, j < S.nx → more σ e.s.nx ⟨w.heap.size, sz⟩ j = σ j := fun j hj => hσ j (.inl hj)
        have hself : more σ e.s.nx ⟨w.heap.size, sz⟩ e.s.nx = ⟨w.heap.size, sz⟩ := more_same _ _ _
        have hkn : Kn (listed.setIfInBounds e.p.i true) (flatE last segs) S e.s.nx := .inr ⟨e, he, (hset _).2 (.inr rfl), by omega, rfl⟩
        refine hK (more σ e.s.nx ⟨w.heap.size, sz⟩) _ w' (h.step he hfl hun hbef hσ ((h.hrel.push r2).congr hσS) (h.ext.push h.hrel hσS r2 r3 r4 r5) ?_ (fun x hx hl hlt => ?_) (fun _ => ?_) (fun x hx hl hlt _ => ?_))
        · exact r7 _ _ ⟨hkn, by omega⟩ hself
        · refine early_mono (fun j hj => ⟨kn_mono hup hj, hσ j hj⟩) (hσ _ (.inr ⟨x, hx, hl, hlt, rfl⟩)) (fun j hj => hσS j (h.hrel.live_lt hj)) (fun o ho => ?_) (h.al x hx hl hlt)
          rw [r2, push_old (Array.getElem?_eq_some_iff.1 ho).1]; exact ho
        · refine ⟨ao, hn, hd, by rw [hself]; exact h.ext.size, ⟨o', by rw [hself, r2]; simp, ?_⟩, fun j hj => ?_⟩
          · rw [hself]
            exact r6.mono fun j hj => ⟨⟨kn_mono hup hj.1, hj.2⟩, hσ j hj.1⟩
          · rw [hself, hσS j (h.hrel.live_lt hj)]
            have := h.hrel.live_blk hj
            show (σ j).blk ≠ w.heap.size
            omega
        · rw [hself, hσ _ (.inr ⟨x, hx, hl, hlt, rfl⟩)]
          obtain ⟨_, _, _, _, ⟨o2, q1, _⟩, _⟩ := h.al x hx hl hlt
          have := (Array.getElem?_eq_some_iff.1 q1).1
          show (σ x.s.nx).blk ≠ w.heap.size
          omega
      · cases hat
    · cases hat
end
end Go.Proofs.YtoddlefhlicfiaaGreatDoorR.X

/- Regions that draw their order: a writer; all of it. -/
set_option linter.unusedSimpArgs false
set_option linter.unusedVariables false
namespace Go.Proofs.YtoddlefhlicfiaaGreatDoorR.X
open Go

section
variable {C : Cx} (ok : CxOk C) (hN : NameOk C.P) (hI : IntrOk C) {rec : Rec} (hR : RecOk C rec) {B : Nat} {ops : Array Oper} {bef : List Nat} {last : List TE} {tf : Tm} {sf : St} {σ0 : Sg} {s0 : St} {w0 : World} {a0 : Act}
variable {listed : Array Bool} {segs rest : List (List TE × TE)} {fl : List TE} {T : Tm} {S : St} {gs : List Stage} {σ σ' : Sg} {a : Act} {w w' : World}

theorem Inv.next {e : TE} (h : Inv C B rec ops.toList bef last tf sf σ0 s0 w0 a0 listed ((fl, e) :: rest) T S gs σ a w) (hbase : HRel C B σ0 s0 w0) (hun : ¬ Lst listed e.p.i) (hbef : ∀ j, tb e.p.bef j = true → Lst listed j)
    (hhs : HRel C B σ e.s w) (hxs : Ext σ0 σ s0 e.s w0 w) (hlive : ∀ i, Live e.s i → Live S i ∨ ∃ x ∈ fl, x.s.nx < x.s'.nx ∧ i = x.s.nx) {σ1 : Sg} {w1 : World} {v' : Value}
    (hh : HRel C B σ1 e.s' w1) (hx : Ext σ σ1 e.s e.s' w w1) (hv : VRel σ1 (· < e.s'.nx) e.v v') :
    ∃ T' gs' σ', Inv C B rec ops.toList bef last tf sf σ0 s0 w0 a0 (listed.setIfInBounds e.p.i true) rest T' e.s' gs' σ' (a.put e.p.o.dst v') w1 := by
  have hsp : flatE last ((fl, e) :: rest) = fl ++ e :: flatE last rest := rfl
  have he : e ∈ flatE last ((fl, e) :: rest) := by rw [hsp]; simp
  have hset : ∀ j, Lst (listed.setIfInBounds e.p.i true) j ↔ Lst listed j ∨ j = e.p.i := fun j => lst_set (h.lt he)
  have hup : ∀ j, Lst listed j → Lst (listed.setIfInBounds e.p.i true) j := fun j hj => (hset j).2 (.inl hj)
  have hin : ∀ x ∈ flatE last rest, x ∈ flatE last ((fl, e) :: rest) := fun x hx => by rw [hsp]; simp [hx]
  have hinf : ∀ x ∈ fl, x ∈ flatE last ((fl, e) :: rest) := fun x hx => by rw [hsp]; simp [hx]
  have hwch := h.run.wch
  have hnx := hwch.nx
  rw [hsp] at hwch
  obtain ⟨nx1, nx2⟩ := hwch.nx2
  obtain ⟨D, hord, hD⟩ := h.ord
  have hord0 := hord
  rw [hsp, List.map_append, List.map_cons] at hord
  obtain ⟨o1, o2, o3, o4, o5⟩ := hord.mem
  have hne : ∀ x ∈ flatE last rest, x.p.i ≠ e.p.i := fun x hx => o5 _ (List.mem_map.2 ⟨x, hx, rfl⟩)
  have which : ∀ x ∈ flatE last rest, Lst (listed.setIfInBounds e.p.i true) x.p.i → Lst listed x.p.i := fun x hx hl => ((hset _).1 hl).resolve_right (hne x hx)
  have hfl : ∀ x ∈ fl, Lst listed x.p.i := fun x hx => hbef _ ((h.seg.1 x.p (List.mem_map.2 ⟨x, hx, rfl⟩)).2)
  obtain ⟨t1, s1, hf, ht, hs, hwr, t2, hput, hrest⟩ := h.run
  have hS : S.nx ≤ e.s.nx := (hnx e he).1
  have hS' : e.s.nx ≤ e.s'.nx := (hnx e he).2
  -- the numbering behind it
  obtain ⟨σ2, hσ2⟩ : ∃ σ2 : Sg, σ2 = fun j => if j < e.s'.nx then σ1 j else σ j := ⟨_, rfl⟩
  have g1 : ∀ j, j < e.s'.nx → σ2 j = σ1 j := fun j hj => by rw [hσ2]; simp [hj]
  have g2 : ∀ j, e.s'.nx ≤ j → σ2 j = σ j := fun j hj => by rw [hσ2]; simp; omega
  have g3 : ∀ j, j < e.s.nx → σ2 j = σ j := fun j hj => (g1 j (by omega)).trans (hx.sg j hj)
  have g4 : ∀ j, Kn listed (flatE last ((fl, e) :: rest)) S j → σ2 j = σ j ∧ Kn (listed.setIfInBounds e.p.i true) (flatE last rest) e.s' j := by
    rintro j (hj | ⟨x, hx', hl, hlt, rfl⟩)
    · exact ⟨g3 j (by omega), .inl (by omega)⟩
    · rw [hsp] at hx'
      rcases List.mem_append.1 hx' with hx' | hx'
      · have := nx1 x hx'
        exact ⟨g3 _ (by omega), .inl (by omega)⟩
      · rcases List.mem_cons.1 hx' with rfl | hx'
        · exact absurd hl hun
        · exact ⟨g2 _ (nx2 x hx'), .inr ⟨x, hx', hup _ hl, hlt, rfl⟩⟩
  have other : ∀ x ∈ flatE last ((fl, e) :: rest), x.p.i ≠ e.p.i → ∀ d, x.p.o.dst = some d → e.p.o.dst ≠ some d := fun x hx' hxe d hd =>
    (h.tmp e.p (List.mem_map.2 ⟨e, he, rfl⟩) x.p (List.mem_map.2 ⟨x, hx', rfl⟩) (fun q => hxe q.symm) d hd).2
  -- early blocks of what comes lie aside
  have apart : ∀ x ∈ flatE last rest, Lst listed x.p.i → x.s.nx < x.s'.nx → ∀ i, Live e.s i → (σ i).blk ≠ (σ x.s.nx).blk := by
    intro x hx' hl hlt i hi heq
    obtain ⟨_, _, _, _, _, h6⟩ := h.al x (hin x hx') hl hlt
    rcases hlive i hi with hi | ⟨y, hy, hylt, rfl⟩
    · exact h6 i hi heq
    · have := h.al2 y (hinf y hy) x (hin x hx') (hfl y hy) hl hylt hlt heq
      have := nx1 y hy
      have := nx2 x hx'
      omega
  refine ⟨t2, _, σ2, ⟨by rw [Array.size_setIfInBounds]; exact h.size, hrest, ⟨_, _, rfl⟩, ?_, ?_, fun x hx => h.one x (hin x hx), h.seg.2.2.2, h.lastf, fun p hp q hq => ?_, ?_, hh.congr (fun j hj => g1 j hj), ?_, ?_, ?_, ?_, ?_, ?_⟩⟩
  · refine ⟨_, Ord.drop (l1 := fl.map (·.p) ++ [e.p]) (by rw [List.append_assoc]; exact hord), fun j hj => ?_⟩
    rcases hj with hj | ⟨p, hp, rfl⟩
    · exact hup _ (hD j hj)
    · rcases List.mem_append.1 hp with hp | hp
      · obtain ⟨x, hx', rfl⟩ := List.mem_map.1 hp
        exact hup _ (hfl x hx')
      · rw [List.mem_singleton.1 hp]; exact (hset _).2 (.inr rfl)
  · intro k j hk hj
    rcases (hset k).1 hk with hk | rfl
    · exact hup _ (h.closed k j hk hj)
    · rw [(h.one e he).at_] at hj
      exact hup _ (hbef j hj)
  · exact h.tmp p (by obtain ⟨x, hx', rfl⟩ := List.mem_map.1 hp; exact List.mem_map.2 ⟨x, hin x hx', rfl⟩) q (by obtain ⟨x, hx', rfl⟩ := List.mem_map.1 hq; exact List.mem_map.2 ⟨x, hin x hx', rfl⟩)
  · intro x hxs' hl
    have hxm : x.2 ∈ flatE last rest := flatE_writer x hxs'
    exact h.wr x (by simp [hxs']) (which x.2 hxm hl)
  · exact (Ext.trans hbase hhs hxs hx).congr' (fun j hj => g1 j hj) hh
  · intro d v hd hno
    rcases put_get hput d with ⟨k1, k2, _⟩ | ⟨k1, k2⟩
    · rw [k2] at hd; injection hd with hd
      obtain ⟨u, hu⟩ := h.bound he hun k1
      rw [k1, ← hd]
      exact ⟨v', put_same hu, hv.mono fun j hj => ⟨hj, g1 j hj⟩⟩
    · rw [k2] at hd
      rw [put_other k1]
      rcases FCh.get hf d v hd with ⟨m1, m2⟩ | ⟨x, m1, m2, m3⟩
      · obtain ⟨u, q1, q2⟩ := h.tm d v m1 (fun x hx' hl => by
          rw [hsp] at hx'
          rcases List.mem_append.1 hx' with hx' | hx'
          · exact m2 x hx'
          · rcases List.mem_cons.1 hx' with rfl | hx'
            · exact absurd hl hun
            · exact hno x hx' (hup _ hl))
        exact ⟨u, q1, q2.mono fun j hj => ⟨by show j < e.s'.nx; omega, g3 j (by omega)⟩⟩
      · obtain ⟨u, q1, q2⟩ := h.tm2 x (hinf x m1) (hfl x m1) d m2
        rw [m3] at q2
        have := nx1 x m1
        exact ⟨u, q1, q2.mono fun j hj => ⟨by have := hj.2; show j < e.s'.nx; omega, (g4 j hj.1).1⟩⟩
  · intro x hx' hl d hd
    obtain ⟨u, q1, q2⟩ := h.tm2 x (hin x hx') (which x hx' hl) d hd
    exact ⟨u, by rw [put_other (other x (hin x hx') (hne x hx') d hd)]; exact q1, q2.mono fun j hj => ⟨⟨(g4 j hj.1).2, hj.2⟩, (g4 j hj.1).1⟩⟩
  · intro x hx' hl hlt
    have hl := which x hx' hl
    obtain ⟨ao, h1, h2, h3, ⟨o', h4, h5⟩, h6⟩ := h.al x (hin x hx') hl hlt
    have e1 : σ2 x.s.nx = σ x.s.nx := g2 _ (nx2 x hx')
    have hap := apart x hx' hl hlt
    refine ⟨ao, h1, h2, by rw [e1]; exact h3, ⟨o', ?_, by rw [e1]; exact h5.mono fun j hj => ⟨⟨(g4 j hj.1).2, hj.2⟩, (g4 j hj.1).1⟩⟩, fun j hj => ?_⟩
    · rw [e1, hx.frame _ (Array.getElem?_eq_some_iff.1 h4).1 (fun i hi => hap i hi.live)]; exact h4
    · rw [e1, g1 j (hh.live_lt hj)]
      rcases hx.fresh j hj with hj' | hj' | ⟨k, hk, hke⟩
      · rw [hx.sg j (hhs.live_lt hj')]; exact hap j hj'
      · have := (Array.getElem?_eq_some_iff.1 h4).1; omega
      · rw [hke]; exact hap k hk
  · intro x hx' z hz hxl hzl hxlt hzlt heq
    rw [g2 _ (nx2 x hx'), g2 _ (nx2 z hz)] at heq
    exact h.al2 x (hin x hx') z (hin z hz) (which x hx' hxl) (which z hz hzl) hxlt hzlt heq
  · rw [put_defers]; exact h.defers
include ok hN hI hR
/-- The next writer. -/
theorem Inv.write {F : Fence} (hF : WideF F) {n : Nat} {Q : Exit → Act → World → Prop} {K : Act → World → Prop} {e : TE} (h : Inv C B rec ops.toList bef last tf sf σ0 s0 w0 a0 listed ((fl, e) :: rest) T S gs σ a w) (hbase : HRel C B σ0 s0 w0) (hun : ¬ Lst listed e.p.i)
    (hed : ∀ x ∈ e.p.o.after, Region.binds .any x = true → Lst listed x.on)
    (hK : ∀ T' gs' σ' a' w', Inv C B rec ops.toList bef last tf sf σ0 s0 w0 a0 (listed.setIfInBounds e.p.i true) rest T' e.s' gs' σ' a' w' → K a' w') : wpOpIn F n C.P ops Q e.p.i K a w := by
  have hsp : flatE last ((fl, e) :: rest) = fl ++ e :: flatE last rest := rfl
  have he : e ∈ flatE last ((fl, e) :: rest) := by rw [hsp]; simp
  obtain ⟨hbef, her⟩ := h.ready hsp hun hed
  have hfl : ∀ x ∈ fl, Lst listed x.p.i := fun x hx => hbef _ ((h.seg.1 x.p (List.mem_map.2 ⟨x, hx, rfl⟩)).2)
  have hinf : ∀ x ∈ fl, x ∈ flatE last ((fl, e) :: rest) := fun x hx => by rw [hsp]; simp [hx]
  obtain ⟨t1, s1, hf, ht, hs, hwr, t2, hput, hrest⟩ := h.run
  subst hs; subst ht
  obtain ⟨m1, m2, m3⟩ := adopt_all hbase.big hf h.hrel h.ext (fun x hx hl => h.al x (hinf x hx) (hfl x hx) hl) (fun x hx y hy => h.al2 x (hinf x hx) y (hinf y hy) (hfl x hx) (hfl y hy))
  have her' : ERel σ (· < e.s.nx) (restr (readsOf ops.toList e.p.o) (evalA C.G e.t)) a := fun x v hx => (her x v hx).mono fun j hj => ⟨hj.2, rfl⟩
  have hone := h.one e he
  have hop : ops[e.p.i]? = some e.p.o := by have := hone.op; simpa using this
  unfold wpOpIn
  rw [hop]
  simp only []
  unfold writeA at hwr
  obtain ⟨b, hb, hwr⟩ := bnd_ok.1 hwr
  rw [restr_wanted] at hb
  rw [wanted_ok her' hb]
  cases b with
  | false =>
    simp at hwr
    simp only [Bool.false_eq_true, if_false]
    refine ⟨about_wide hF, ?_⟩
    obtain ⟨T', gs', σ', hi⟩ := h.next hbase hun hbef m1 m2 m3 (σ1 := σ) (w1 := w) (v' := Go.undef) (by rw [← hwr.2]; exact m1) (by rw [← hwr.2]; exact Ext.refl _ _ _) (by rw [← hwr.1]; exact undef_rel)
    exact hK T' gs' σ' _ _ hi
  | true =>
    simp only [if_true]
    simp only [] at hwr
    obtain ⟨⟨v, s2⟩, hs2, hwr⟩ := bnd_ok.1 hwr
    simp only [] at hwr
    split at hwr
    · simp at hwr
      obtain ⟨rfl, rfl⟩ := hwr
      rw [opR_congr e.p.o (restr_op (ops := ops.toList))] at hs2
      refine op_wp ok hN hI hR hF her' m1 hs2 ?_
      intro σ1 w1 v' k1 k2 k3
      obtain ⟨T', gs', σ', hi⟩ := h.next hbase hun hbef m1 m2 m3 k1 k2 k3
      exact hK T' gs' σ' _ _ hi
    · cases hwr
/-- Whatever is drawn. -/
theorem drawn {F : Fence} (hF : WideF F) {n : Nat} {Q : Exit → Act → World → Prop} (hbase : HRel C B σ0 s0 w0)
    (hq : ∀ σ' w' tmps', HRel C B σ' sf w' → Ext σ0 σ' s0 sf w0 w' → TRel σ' (· < sf.nx) tf tmps' → Q .normal { a0 with tmps := tmps' } w') :
    ∀ (fuel : Nat) (listed : Array Bool) (segs : List (List TE × TE)) (T : Tm) (S : St) (gs : List Stage) (σ : Sg) (a : Act) (w : World),
      Inv C B rec ops.toList bef last tf sf σ0 s0 w0 a0 listed segs T S gs σ a w → listed.toList.count false = fuel → wpAnyIn F n C.P .any ops Q fuel listed a w
  | 0, listed, segs, T, S, gs, σ, a, w, h, hc => by
    have hsize : listed.size = ops.size := by have := h.size; simpa using this
    have hall : ∀ j, j < ops.size → Lst listed j := fun j hj => by
      have := count_zero hc j (by simp; omega)
      unfold Lst
      rw [Array.getD_eq_getD_getElem?]
      have : listed[j]? = some true := by simpa using this
      rw [this]; rfl
    refine ⟨?_, h.done hall hbase.big hq⟩
    cases hr : Region.ready .any ops listed with
    | nil => rfl
    | cons j l =>
      exfalso
      have hm : j ∈ Region.ready .any ops listed := by rw [hr]; simp
      obtain ⟨h1, o, ho, _⟩ := mem_ready.1 hm
      have hj := (Array.getElem?_eq_some_iff.1 ho).1
      have := hall j hj
      unfold Lst at this
      rw [Array.getD_eq_getD_getElem?] at this h1
      have hlt : j < listed.size := by omega
      rw [Array.getElem?_eq_getElem hlt] at this h1
      simp at this h1
      rw [this] at h1; cases h1
  | fuel + 1, listed, segs, T, S, gs, σ, a, w, h, hc => by
    have hsize : listed.size = ops.size := by have := h.size; simpa using this
    have hget : ∀ j, j < ops.size → (listed.getD j true = false ↔ ¬ Lst listed j) := fun j hj => by
      unfold Lst
      rw [Array.getD_eq_getD_getElem?, Array.getD_eq_getD_getElem?, Array.getElem?_eq_getElem (by omega)]
      simp
    obtain ⟨D, hord, hD⟩ := h.ord
    refine ⟨fun hr => ?_, fun i hi => ?_⟩
    · exfalso
      -- the first one that is not done may come up
      obtain ⟨j, hj, hjf⟩ := count_pos (l := listed.toList) (by omega)
      have hj : j < ops.size := by simp at hj; omega
      have hjn : ¬ Lst listed j := by
        unfold Lst
        rw [Array.getD_eq_getD_getElem?]
        have : listed[j]? = some false := by simpa using hjf
        rw [this]; simp
      have first : ∀ (l : List TE), (∃ e ∈ l, ¬ Lst listed e.p.i) → ∃ pre e post, l = pre ++ e :: post ∧ ¬ Lst listed e.p.i ∧ ∀ x ∈ pre, Lst listed x.p.i := by
        intro l
        induction l with
        | nil => rintro ⟨e, he, _⟩; cases he
        | cons y l ih =>
          rintro ⟨e, he, hn⟩
          by_cases hy : Lst listed y.p.i
          · rcases List.mem_cons.1 he with rfl | he
            · exact absurd hy hn
            · obtain ⟨pre, x, post, k1, k2, k3⟩ := ih ⟨e, he, hn⟩
              refine ⟨y :: pre, x, post, by rw [k1]; rfl, k2, fun z hz => ?_⟩
              rcases List.mem_cons.1 hz with rfl | hz
              · exact hy
              · exact k3 z hz
          · exact ⟨[], y, l, rfl, hy, fun z hz => by cases hz⟩
      obtain ⟨p, hp, hpi⟩ : ∃ p ∈ (flatE last segs).map (·.p), p.i = j := by
        rcases hord.total j (by simpa using hj) with hd | hd
        · exact absurd (hD j hd) hjn
        · exact hd
      obtain ⟨x, hx, rfl⟩ := List.mem_map.1 hp
      obtain ⟨pre, e, post, hsp, hen, hpre⟩ := first _ ⟨x, hx, by rw [hpi]; exact hjn⟩
      have he : e ∈ flatE last segs := by rw [hsp]; simp
      have hone := h.one e he
      have hop : ops[e.p.i]? = some e.p.o := by have := hone.op; simpa using this
      have hlt := (Array.getElem?_eq_some_iff.1 hop).1
      have : e.p.i ∈ Region.ready .any ops listed := by
        refine mem_ready.2 ⟨(hget _ hlt).2 hen, e.p.o, hop, fun x hx hb => ?_⟩
        have hbit : tb e.p.bef x.on = true := by rw [← hone.mask]; exact (edgeMask_ok bef e.p.o x.on).2 ⟨x, hx, hb, .inl rfl⟩
        have hord' := hord
        rw [hsp, List.map_append, List.map_cons] at hord'
        rcases hord'.mem.2.2.1 _ hbit with hd | ⟨q, hq', hqi⟩
        · exact hD _ hd
        · obtain ⟨y, hy, rfl⟩ := List.mem_map.1 hq'
          rw [← hqi]; exact hpre y hy
      rw [hr] at this; cases this
    · obtain ⟨h1, o, ho, hed⟩ := mem_ready.1 hi
      have hlt := (Array.getElem?_eq_some_iff.1 ho).1
      have hun : ¬ Lst listed i := (hget i hlt).1 h1
      obtain ⟨p, hp, hpi⟩ : ∃ p ∈ (flatE last segs).map (·.p), p.i = i := by
        rcases hord.total i (by simpa using hlt) with hd | hd
        · exact absurd (hD i hd) hun
        · exact hd
      obtain ⟨e, he, rfl⟩ := List.mem_map.1 hp
      subst hpi
      obtain ⟨pre, post, hsp⟩ := List.append_of_mem he
      have hone := h.one e he
      have hoe : o = e.p.o := by have := hone.op; rw [show ops.toList[e.p.i]? = some o by simpa using ho] at this; exact Option.some.inj this
      subst hoe
      have hcnt : (listed.setIfInBounds e.p.i true).toList.count false = fuel := by
        have hb : listed.toList[e.p.i]? = some false := by
          rw [Array.getD_eq_getD_getElem?, Array.getElem?_eq_getElem (by omega)] at h1
          simp at h1
          simp [Array.getElem?_eq_getElem (show e.p.i < listed.size by omega), h1]
        have := count_set listed.toList e.p.i hb
        rw [Array.toList_setIfInBounds]
        omega
      cases hw : isWrite e.p.cls with
      | false => exact h.float ok hF hsp hw hun hed (fun σ' a' w' hi' => drawn hF hbase hq fuel _ segs T S gs σ' a' w' hi' hcnt)
      | true =>
        obtain ⟨hbef, _⟩ := h.ready hsp hun hed
        rcases flatE_mem he with hl | ⟨x, hx, hxe⟩
        · rw [h.lastf e hl] at hw; cases hw
        · have hxw := SegP.writer h.seg (x.1.map (·.p), x.2.p) (List.mem_map.2 ⟨x, hx, rfl⟩)
          rcases hxe with hxe | rfl
          · have := hxw.2 e.p (List.mem_map.2 ⟨e, hxe, rfl⟩)
            rw [hw] at this; cases this
          · cases hsegs : segs with
            | nil => rw [hsegs] at hx; cases hx
            | cons y rest =>
              obtain ⟨fl, e0⟩ := y
              rw [hsegs] at hx
              rcases List.mem_cons.1 hx with rfl | hx
              · subst hsegs
                exact h.write ok hN hI hR hF hbase hun hed (fun T' gs' σ' a' w' hi' => drawn hF hbase hq fuel _ rest T' _ gs' σ' a' w' hi' hcnt)
              · -- a later writer stands behind one that is not done
                exfalso
                have hseg := h.seg
                rw [hsegs] at hseg
                obtain ⟨z, hz, hzb⟩ := SegP.pred (rest := rest.map fun x => (x.1.map (·.p), x.2.p)) (by simpa using hseg) (x.1.map (·.p), x.2.p) (List.mem_map.2 ⟨x, hx, rfl⟩)
                have hz' : z ∈ ((fl, e0) :: rest).map fun x => (x.1.map (·.p), x.2.p) := by simpa using hz
                obtain ⟨u, hu, rfl⟩ := List.mem_map.1 hz'
                exact h.wr u (by rw [hsegs]; exact hu) (hbef _ hzb)
/-- A region that draws its order. -/
theorem region_draw {F : Fence} (hF : WideF F) (hM : C.P.follows .mixedOrders = true) {n id : Nat} {Q : Exit → Act → World → Prop} {t t' : Tm} {s s' : St} (hs : regionA C rec ops.toList true t s = .ok (t', s')) (h : HRel C B σ s w) (ht : TRel σ (· < s.nx) t a.tmps)
    (hq : ∀ σ' w' tmps', HRel C B σ' s' w' → Ext σ σ' s s' w w' → TRel σ' (· < s'.nx) t' tmps' → Q .normal { a with tmps := tmps' } w') : (Code.region id ops true).wpIn F n C.P Q a w := by
  unfold regionA at hs
  simp only [] at hs
  obtain ⟨pl, hpl, hs⟩ := bnd_ok.1 hs
  obtain ⟨bef, hplan⟩ := planA_ok hpl
  obtain ⟨es, le, k1, k2, k3, k4⟩ := segs_trace hs
  refine wpIn_region_any hM ?_
  have hno : ∀ j, ¬ Lst (Array.replicate ops.size false) j := fun j e => by
    unfold Lst at e
    rw [Array.getD_eq_getD_getElem?, Array.getElem?_replicate] at e
    split at e <;> simp at e
  refine drawn ok hN hI hR hF h hq ops.size _ es t s _ σ a _ ⟨by simp, k4, ⟨none, [], rfl⟩, ⟨fun _ => False, by rw [← k1]; exact hplan.ord, fun j hj => False.elim hj⟩, fun k j hk _ => absurd hk (hno k), fun e he => hplan.one e.p (by rw [k1]; exact List.mem_map.2 ⟨e, he, rfl⟩), by rw [← k2]; exact hplan.seg,
    fun e he => hplan.last e.p (by rw [k3]; exact List.mem_map.2 ⟨e, he, rfl⟩), by rw [← k1]; exact hplan.tmp, fun x _ => hno _, h.heap rfl, ⟨fun _ _ => rfl, Nat.le_refl _, Nat.le_refl _, fun _ _ _ => rfl, fun i hi => .inl hi, fun i hi => .inl hi, rfl, rfl, rfl⟩,
    fun d v hd _ => ht d v hd, fun e _ hl => absurd hl (hno _), fun e _ hl => absurd hl (hno _), fun e _ e' _ hl => absurd hl (hno _), rfl⟩ ?_
  simp [List.count_replicate]
end
end Go.Proofs.YtoddlefhlicfiaaGreatDoorR.X

/- The executor is the model: all code. -/
set_option linter.unusedSimpArgs false
set_option linter.unusedVariables false
namespace Go.Proofs.YtoddlefhlicfiaaGreatDoorR.X
open Go Go.RowKit

theorem stepR_scope {P : Program} {b : Frame} {a : Act} {k : List Item} {cs : List Frame} {w : World} {c : Code} : Go.step P (lone (b.atR a (.code (.scope c) :: k)) cs w) = .next (lone (b.atR a (.code c :: .inScope c :: k)) cs w) :=
  step_lone_go (by simp [stepG, stepG.exec, Frame.atR])
theorem stepR_inScope {P : Program} {b : Frame} {a : Act} {k : List Item} {cs : List Frame} {w : World} {c : Code} : Go.step P (lone (b.atR a (.inScope c :: k)) cs w) = .next (lone (b.atR a k) cs w) :=
  step_lone_go (by simp [stepG, stepG.exec, Frame.atR])
theorem wpIn_scope {F : Fence} {n : Nat} {P : Program} {Q : Exit → Act → World → Prop} {a : Act} {w : World} {c : Code} (h : c.wpIn F n P (Exit.noGoto Q) a w) : (Code.scope c).wpIn F n P Q a w := by
  intro b k cs hro hb hr
  have h0 : (lone (b.atR a (.code (.scope c) :: k)) cs w).fenced P F := fenced_calm hb hr rfl
  obtain ⟨e, a₁, w₁, hq, harr⟩ := h b (.inScope c :: k) cs hro hb hr
  cases e with
  | normal => exact ⟨.normal, a₁, w₁, hq, .head h0 stepR_scope (StepsIn.trans harr (.one (fenced_calm hb hr rfl) stepR_inScope))⟩
  | exit id =>
    have hx : exitTo id (.inScope c :: k) = exitTo id k := by simp [exitTo]
    exact ⟨.exit id, a₁, w₁, hq, fun k' hk => .head h0 stepR_scope (harr.1 k' (by rw [hx]; exact hk)),
      fun hr' hk => let ⟨k₁, h1, h2⟩ := harr.2 hr' (by rw [hx]; exact hk); ⟨k₁, h1, .head h0 stepR_scope h2⟩⟩
  | goto l => exact hq.elim
  | ret => exact ⟨.ret, a₁, w₁, hq, .of_steps (e := .ret) (.one h0 stepR_scope) harr⟩
  | panic ch => exact ⟨.panic ch, a₁, w₁, hq, .of_steps (e := .panic ch) (.one h0 stepR_scope) harr⟩
  | outgrown => exact ⟨.outgrown, a₁, w₁, hq, .of_steps (e := .outgrown) (.one h0 stepR_scope) harr⟩
theorem noGoto_exit {Q : Exit → Act → World → Prop} {e : Ex} {a : Act} {w : World} (h : Q (exitOf e) a w) : Exit.noGoto Q (exitOf e) a w := by cases e <;> exact h
theorem run_enterLoop_inner {P : Program} {w : World} {l : Nat} {r : Loop} (fn : FuncId) (tmps : Array Value) (ps : Array Tmp) (assign body : Code) (h : w.heap[l]? = some (.loop r)) :
    (Instr.enterLoop fn tmps ps assign body (some l)).run P w = .ok (w.heap.size, []) (w.alloc (.loop { state := .ready, pending := none, fn, tmps, params := ps, assign, body, defers := r.defers })) := by
  unfold Instr.enterLoop
  simp only [Sem.run_bind, run_getLoop h, run_newObj_alloc, Result.andThen, Sem.run_pure]

section
variable {C : Cx} (ok : CxOk C) (hN : NameOk C.P) (hI : IntrOk C) {rec : Rec} (hR : RecOk C rec) {B : Nat} {σ : Sg} {s s' : St} {w : World} {a : Act}
theorem fr_tmps {fr : Fr} {t : Tm} {tmps : Array Value} (h : FRel σ s fr a) {σ' : Sg} {w' : World} (e : Ext σ σ' s s' w w') (ht : TRel σ' (· < s'.nx) t tmps) : FRel σ' s' { fr with tmps := t } { a with tmps := tmps } :=
  ⟨ht, (h.ext e).marks, (h.ext e).lt⟩
include ok hN hI hR
/-- The range itself, once its record lies there. -/
theorem range_call {rd : Option Nat} {n : Nat} {Q : Exit → Act → World → Prop} {f : Operand} {params : Array Tmp} {assign body : Code} {fr fr' : Fr} {e : Ex} {l : Nat} {s1 : St} (fn : FuncId)
    (hs : M.bnd (evalA C.G fr.tmps f) (fun v => match v with
      | .func (.func g) first cap => M.bnd (callF C rec g (first.toList ++ [.func (.yield l) #[] #[]] ++ cap.toList) s1) fun (_, s) => M.bnd (rdLoop s l) fun r => match r.st with
        | .busy => .error "range over a function busy"
        | _ => M.bnd (putO s l (.loop { r with st := .exhausted })) fun s => match r.pend with
          | none => .ok (.normal, fr, s)
          | some c => rec rd c fr s
      | _ => .error "range over what") = .ok (e, fr', s')) (h : HRel C B σ s1 w) (hl : l < s1.nx) (hfr : FRel σ s1 fr a) (hrd : ∀ l', rd = some l' → l' < s1.nx)
    (hq : ∀ σ' a' w', HRel C B σ' s' w' → Ext σ σ' s1 s' w w' → FRel σ' s' fr' a' → Q (exitOf e) a' w') :
    ∃ (d : Deferred) (f' : FuncId) (args : Array Value), (resolve a.eval (rangeCall f (σ l).blk) 0).run C.P w = .ok d w ∧ (invoke d.target d.args).run C.P w = .ok (.enter f' args) w ∧
      CallsIn (FF σ rd) (n - 1) C.P f' args w (rangePost (FF σ rd) n C.P (σ l).blk Q a) := by
  obtain ⟨v, hv, hs⟩ := bnd_ok.1 hs
  have he := hfr.tmps.erel h.glob f v hv
  split at hs
  · rename_i g first cap
    obtain ⟨⟨v2, s2⟩, hcall, hs⟩ := bnd_ok.1 hs
    simp only [] at hs
    obtain ⟨a', c', e1, l1, l2⟩ := he.func_inv
    obtain ⟨⟨fn', hfn, hb⟩, hcok⟩ := callF_ok (B := B) ok hN hI hR hcall
    refine ⟨{ target := .fn (.func g) c', args := a' ++ #[.func (.yield (σ l).blk) #[] #[]] }, g, a' ++ #[.func (.yield (σ l).blk) #[] #[]] ++ c', ?_, ?_, ?_⟩
    · simp only [resolve, e1, Deferred.ofValue, Sem.run_pure]
      simp [Act.eval]
    · simp only [invoke]; exact run_callFunc hN hfn hb _ w
    · refine (FF.wide σ rd).calls.2 ?_
      have hy : LRel σ (· < s1.nx) [Value.func (.yield l) #[] #[]] [Value.func (.yield (σ l).blk) #[] #[]] := ⟨.yield hl, trivial⟩
      have := hcok σ w _ h ((l1.app hy).app l2)
      have ea : (a'.toList ++ [Value.func (.yield (σ l).blk) #[] #[]] ++ c'.toList).toArray = a' ++ #[.func (.yield (σ l).blk) #[] #[]] ++ c' := by apply Array.ext'; simp
      rw [ea] at this
      refine this.mono ?_
      rintro ee w' ⟨v', σ', rfl, q1, q2, q3⟩
      obtain ⟨r, hr, hs⟩ := bnd_ok.1 hs
      obtain ⟨hlive, hg, hlt, r', u1, u2, u3, u4, u5, u6, u7⟩ := rdLoop_ok q2 hr
      have hlt' := (Array.getElem?_eq_some_iff.1 u1).1
      have e3 : (σ' l).blk = (σ l).blk := by rw [q3.sg l hl]
      have fin : r.st ≠ .busy → M.bnd (putO s2 l (.loop { r with st := .exhausted })) (fun s => match r.pend with | none => .ok (.normal, fr, s) | some c => rec rd c fr s) = .ok (e, fr', s') → rangePost (FF σ rd) n C.P (σ l).blk Q a (.returned v') w' := by
        intro hnb hs
        obtain ⟨s3, hput, hs⟩ := bnd_ok.1 hs
        obtain ⟨x1, x2, x3⟩ := q2.put (w' := w'.putObj (σ' l).blk (.loop { r' with state := .exhausted })) hput hlive (fun k hk => World.putObj_heap_other hk) (World.putObj_size) rfl rfl rfl
          (fun _ => ⟨_, World.putObj_heap_same hlt', _, rfl, rfl, u3, u4, u5, u6, u7⟩)
        have ext := Ext.trans h q2 q3 x2
        refine ⟨_, _, by rw [← e3]; exact run_endLoop u1 (by rw [u2]; exact hnb), ?_⟩
        generalize w'.putObj (σ' l).blk (.loop { r' with state := .exhausted }) = W4 at x1 x2 ext ⊢
        rw [u3]
        cases hp : r.pend with
        | none =>
          rw [hp] at hs
          simp at hs
          obtain ⟨rfl, rfl, rfl⟩ := hs
          exact hq σ' a _ x1 ext (hfr.ext ext)
        | some c =>
          rw [hp] at hs
          simp only [] at hs
          have hF : FF σ rd = FF σ' rd := by
            cases rd with
            | none => rfl
            | some l' => show Fence.wide.inRound (σ l').blk = Fence.wide.inRound (σ' l').blk; rw [ext.sg l' (hrd l' rfl)]
          simp only []
          rw [hF]
          exact hR B rd c fr s3 e fr' s' hs σ' _ a n Q (fun l' hl' => Nat.lt_of_lt_of_le (hrd l' hl') ext.nx) x1 (hfr.ext ext) (fun σ2 a2 w2 m1 m2 m3 => hq σ2 a2 w2 m1 (Ext.trans h x1 ext m2) m3)
      cases hst : r.st with
      | busy => rw [hst] at hs; cases hs
      | ready => rw [hst] at hs; exact fin (by rw [hst]; simp) hs
      | done => rw [hst] at hs; exact fin (by rw [hst]; simp) hs
      | exhausted => rw [hst] at hs; exact fin (by rw [hst]; simp) hs
  · cases hs
theorem range_ok {rd : Option Nat} {n : Nat} {Q : Exit → Act → World → Prop} {f : Operand} {params : Array Tmp} {assign body : Code} {fr fr' : Fr} {e : Ex} (hs : rangeA C rec rd f params assign body fr s = .ok (e, fr', s')) (hrd : ∀ l, rd = some l → l < s.nx) (h : HRel C B σ s w) (hfr : FRel σ s fr a)
    (hq : ∀ σ' a' w', HRel C B σ' s' w' → Ext σ σ' s s' w w' → FRel σ' s' fr' a' → Q (exitOf e) a' w') : (Code.rangeFunc f params assign body).wpIn (FF σ rd) n C.P Q a w := by
  refine wpIn_rangeFunc fun fn _ => ?_
  unfold rangeA at hs
  cases rd with
  | none =>
    obtain ⟨⟨fr1, s1⟩, h1, hs⟩ := bnd_ok.1 hs
    simp only [] at h1 hs
    obtain ⟨⟨d, sd⟩, hnd, h1⟩ := bnd_ok.1 h1
    simp at h1
    obtain ⟨rfl, rfl⟩ := h1
    obtain ⟨⟨l, s2⟩, hnl, hs⟩ := bnd_ok.1 hs
    simp only [] at hs
    have hF : (FF σ none).round = none := rfl
    obtain ⟨k1, k2, k3, k4, k5⟩ := h.new (w' := w.alloc (.deferred (some []))) (o' := .deferred (some [])) (sz := 0) hnd rfl rfl rfl rfl rfl rfl
    subst k1
    have hfr1 : FRel (more σ s.nx ⟨w.heap.size, 0⟩) sd { fr with marks := s.nx :: fr.marks } { a with defers := markD w.heap.size :: a.defers } := by
      have e1 := hfr.ext k4
      refine ⟨e1.tmps, ?_, fun x hx => ?_⟩
      · show markD w.heap.size :: a.defers = markD ((more σ s.nx ⟨w.heap.size, 0⟩) s.nx).blk :: _
        rw [more_same, e1.marks]
      · rcases List.mem_cons.1 hx with rfl | hx
        · omega
        · exact e1.lt x hx
    obtain ⟨m1, m2, m3, m4, m5⟩ := k3.new (w' := (w.alloc (.deferred (some []))).alloc (.loop { state := .ready, pending := none, fn, tmps := a.tmps, params, assign, body, defers := w.heap.size }))
      (o' := .loop { state := .ready, pending := none, fn, tmps := a.tmps, params, assign, body, defers := w.heap.size }) (sz := 0) hnl rfl rfl rfl rfl rfl ⟨_, rfl, rfl, rfl, rfl, rfl, rfl, hfr1.tmps⟩
    subst m1
    have hb : (more (more σ s.nx ⟨w.heap.size, 0⟩) sd.nx ⟨(w.alloc (.deferred (some []))).heap.size, 0⟩ sd.nx).blk = w.heap.size + 1 := by rw [more_same]; show (w.alloc (.deferred (some []))).heap.size = _; simp
    obtain ⟨d, f', args, r1, r2, r3⟩ := range_call (B := B) (rd := none) (n := n) (Q := Q) (params := params) (assign := assign) (body := body) ok hN hI hR fn hs m3 (by omega) (hfr1.ext m4) (fun l' hl' => by cases hl') (fun σ' a' w' x1 x2 x3 => hq σ' a' w' x1 (Ext.trans h m3 (Ext.trans h k3 k4 m4) x2) x3)
    rw [hb] at r1 r3
    exact ⟨w.heap.size + 1, [{ target := .collected w.heap.size, args := #[] }], _, d, _, f', args, _, run_enterLoop_outer _ _ _ _ _, r1, fun _ _ => trivial, r2, (FF.wide σ none).depth, r3⟩
  | some l0 =>
    obtain ⟨⟨fr1, s1⟩, h1, hs⟩ := bnd_ok.1 hs
    simp only [] at h1 hs
    obtain ⟨r0, hr0, h1⟩ := bnd_ok.1 h1
    simp at h1
    obtain ⟨rfl, rfl⟩ := h1
    obtain ⟨⟨l, s2⟩, hnl, hs⟩ := bnd_ok.1 hs
    simp only [] at hs
    obtain ⟨_, _, hl0, r0', u1, _⟩ := rdLoop_ok h hr0
    obtain ⟨m1, m2, m3, m4, m5⟩ := h.new (w' := w.alloc (.loop { state := .ready, pending := none, fn, tmps := a.tmps, params, assign, body, defers := r0'.defers }))
      (o' := .loop { state := .ready, pending := none, fn, tmps := a.tmps, params, assign, body, defers := r0'.defers }) (sz := 0) hnl rfl rfl rfl rfl rfl ⟨_, rfl, rfl, rfl, rfl, rfl, rfl, hfr.tmps⟩
    subst m1
    have hb : (more σ s.nx ⟨w.heap.size, 0⟩ s.nx).blk = w.heap.size := by rw [more_same]
    have hF : FF σ (some l0) = FF (more σ s.nx ⟨w.heap.size, 0⟩) (some l0) := by show Fence.wide.inRound (σ l0).blk = Fence.wide.inRound (more σ s.nx ⟨w.heap.size, 0⟩ l0).blk; rw [more_other σ _ (by omega)]
    obtain ⟨d, f', args, r1, r2, r3⟩ := range_call (B := B) (rd := some l0) (n := n) (Q := Q) (params := params) (assign := assign) (body := body) ok hN hI hR fn hs m3 (by omega) (hfr.ext m4) (fun l' hl' => by injection hl' with hl'; omega) (fun σ' a' w' x1 x2 x3 => hq σ' a' w' x1 (Ext.trans h m3 m4 x2) x3)
    rw [hb] at r1 r3
    rw [← hF] at r3
    have ea : a = { a with defers := [] ++ a.defers } := rfl
    exact ⟨w.heap.size, [], _, d, _, f', args, _, run_enterLoop_inner _ _ _ _ _ u1, r1, fun _ _ => (FF.wide σ (some l0)).fn _, r2, (FF.wide σ (some l0)).depth, r3⟩
end
section
variable {C : Cx} (ok : CxOk C) (hN : NameOk C.P) (hI : IntrOk C) (hM : C.P.follows .mixedOrders = true)
include ok hN hI hM
theorem exec_ok (N : Nat) : RecOk C (exec C N) := by
  induction N using Nat.strongRecOn with
  | _ N ih =>
    cases N with
    | zero => intro B rd c fr s e fr' s' hs; simp [exec] at hs
    | succ N =>
      have hR := ih N (Nat.lt_succ_self N)
      intro B rd c fr s e fr' s' hs σ w a n Q hrd h hfr hq
      have hs0 := hs
      simp only [exec] at hs
      unfold codeA at hs
      cases c with
      | skip =>
        simp at hs; obtain ⟨rfl, rfl, rfl⟩ := hs
        exact wpIn_skip (hq σ a w h (Ext.refl _ _ _) hfr)
      | label l =>
        simp at hs; obtain ⟨rfl, rfl, rfl⟩ := hs
        exact wpIn_label (hq σ a w h (Ext.refl _ _ _) hfr)
      | exit id =>
        simp at hs; obtain ⟨rfl, rfl, rfl⟩ := hs
        exact wpIn_exit (hq σ a w h (Ext.refl _ _ _) hfr)
      | ret =>
        simp at hs; obtain ⟨rfl, rfl, rfl⟩ := hs
        exact wpIn_ret (hq σ a w h (Ext.refl _ _ _) hfr)
      | goto l => simp at hs
      | refuse r => simp at hs
      | seq x y =>
        simp only [] at hs
        obtain ⟨⟨e1, fr1, s1⟩, h1, hs⟩ := bnd_ok.1 hs
        refine wpIn_seq (hR B rd x fr s e1 fr1 s1 h1 σ w a n _ hrd h hfr ?_)
        intro σ1 a1 w1 g1 g2 g3
        cases e1 with
        | normal =>
          simp only [] at hs
          have hF : FF σ rd = FF σ1 rd := by
            cases rd with
            | none => rfl
            | some l' => show Fence.wide.inRound (σ l').blk = Fence.wide.inRound (σ1 l').blk; rw [g2.sg l' (hrd l' rfl)]
          show y.wpIn (FF σ rd) n C.P Q a1 w1
          rw [hF]
          exact hR B rd y fr1 s1 e fr' s' hs σ1 w1 a1 n Q (fun l' hl' => Nat.lt_of_lt_of_le (hrd l' hl') g2.nx) g1 g3 (fun σ2 a2 w2 m1 m2 m3 => hq σ2 a2 w2 m1 (Ext.trans h g1 g2 m2) m3)
        | exit id => simp at hs; obtain ⟨rfl, rfl, rfl⟩ := hs; exact hq σ1 a1 w1 g1 g2 g3
        | ret => simp at hs; obtain ⟨rfl, rfl, rfl⟩ := hs; exact hq σ1 a1 w1 g1 g2 g3
      | cond x y z =>
        simp only [] at hs
        obtain ⟨v, hv, hs⟩ := bnd_ok.1 hs
        have he := hfr.tmps.erel h.glob x v hv
        split at hs
        · exact wpIn_cond_true he.bool (hR B rd y fr s e fr' s' hs σ w a n Q hrd h hfr hq)
        · exact wpIn_cond_false he.bool (hR B rd z fr s e fr' s' hs σ w a n Q hrd h hfr hq)
        · cases hs
      | block id body =>
        simp only [] at hs
        obtain ⟨⟨e1, fr1, s1⟩, h1, hs⟩ := bnd_ok.1 hs
        refine wpIn_block (hR B rd body fr s e1 fr1 s1 h1 σ w a n _ hrd h hfr ?_)
        intro σ1 a1 w1 g1 g2 g3
        cases e1 with
        | normal => simp at hs; obtain ⟨rfl, rfl, rfl⟩ := hs; exact hq σ1 a1 w1 g1 g2 g3
        | ret => simp at hs; obtain ⟨rfl, rfl, rfl⟩ := hs; exact hq σ1 a1 w1 g1 g2 g3
        | exit i =>
          simp only [] at hs
          by_cases hi : i = id
          · have : Nat.beq i id = true := by rw [beq_nat]; simp [hi]
            rw [this] at hs; simp at hs; obtain ⟨rfl, rfl, rfl⟩ := hs
            show Exit.inBlock id Q (.exit i) a1 w1
            simp only [Exit.inBlock, hi, if_true]
            exact hq σ1 a1 w1 g1 g2 g3
          · have : Nat.beq i id = false := by rw [beq_nat]; simp [hi]
            rw [this] at hs; simp at hs; obtain ⟨rfl, rfl, rfl⟩ := hs
            show Exit.inBlock id Q (.exit i) a1 w1
            simp only [Exit.inBlock, hi, if_false]
            exact hq σ1 a1 w1 g1 g2 g3
      | loop body =>
        refine wpIn_loop_ghost (fun m a2 w2 => ∃ fr2 s2 σ2, m ≤ N + 1 ∧ exec C m rd (.loop body) fr2 s2 = .ok (e, fr', s') ∧ HRel C B σ2 s2 w2 ∧ Ext σ σ2 s s2 w w2 ∧ FRel σ2 s2 fr2 a2) (N + 1) ⟨fr, s, σ, Nat.le_refl _, hs0, h, Ext.refl _ _ _, hfr⟩ ?_
        rintro m a2 w2 ⟨fr2, s2, σ2, hm, hex, k1, k2, k3⟩
        cases m with
        | zero => simp [exec] at hex
        | succ m =>
          simp only [exec] at hex
          unfold codeA at hex
          simp only [] at hex
          obtain ⟨⟨e1, fr1, s1⟩, h1, hex⟩ := bnd_ok.1 hex
          have hF : FF σ rd = FF σ2 rd := by
            cases rd with
            | none => rfl
            | some l' => show Fence.wide.inRound (σ l').blk = Fence.wide.inRound (σ2 l').blk; rw [k2.sg l' (hrd l' rfl)]
          rw [hF]
          refine ih m (by omega) B rd body fr2 s2 e1 fr1 s1 h1 σ2 w2 a2 n _ (fun l' hl' => Nat.lt_of_lt_of_le (hrd l' hl') k2.nx) k1 k3 ?_
          intro σ1 a1 w1 g1 g2 g3
          have ext := Ext.trans h k1 k2 g2
          cases e1 with
          | normal =>
            simp only [] at hex
            exact ⟨m, Nat.lt_succ_self m, fr1, s1, σ1, by omega, hex, g1, ext, g3⟩
          | exit id => simp at hex; obtain ⟨rfl, rfl, rfl⟩ := hex; exact hq σ1 a1 w1 g1 ext g3
          | ret => simp at hex; obtain ⟨rfl, rfl, rfl⟩ := hex; exact hq σ1 a1 w1 g1 ext g3
      | region id ops draw =>
        simp only [] at hs
        obtain ⟨⟨t1, s1⟩, h1, hs⟩ := bnd_ok.1 hs
        have h1 := note_ok.1 h1
        simp at hs; obtain ⟨rfl, rfl, rfl⟩ := hs
        cases draw with
        | false =>
          have h1 : execOps C (exec C N) ops.toList ops.toList fr.tmps s = .ok (t1, s1) := h1
          exact region_plain ok hN hI hR (FF.wide σ rd) h1 h hfr.tmps (fun σ' w' tmps' g1 g2 g3 => hq σ' _ w' g1 g2 (fr_tmps hfr g2 g3))
        | true => exact region_draw ok hN hI hR (FF.wide σ rd) hM h1 h hfr.tmps (fun σ' w' tmps' g1 g2 g3 => hq σ' _ w' g1 g2 (fr_tmps hfr g2 g3))
      | rangeFunc f params assign body => exact range_ok ok hN hI hR hs hrd h hfr hq
      | scope body =>
        simp only [] at hs
        exact wpIn_scope (hR B rd body fr s e fr' s' hs σ w a n _ hrd h hfr (fun σ' a' w' g1 g2 g3 => noGoto_exit (hq σ' a' w' g1 g2 g3)))
/-- A call, reckoned. -/
theorem call_ok (N : Nat) {B f : Nat} {args : List Value} {s s' : St} {v : Value} (hs : callF C (exec C N) f args s = .ok (v, s')) : CallOk C B f args s v s' :=
  (callF_ok ok hN hI (exec_ok ok hN hI hM N) hs).2
/-- A call from a memory of ours that holds package-level variables alone, and none that is written; whose result speaks of no block: it may be made in any world where these read so. -/
theorem call_any (N : Nat) {f : Nat} {args : List Value} {s s' : St} {v : Value} (hs : callF C (exec C N) f args s = .ok (v, s')) (hv : flat v = true) (hfix : ∀ i, ¬ LiveW s i) (w : World) (σ : Sg) (h : HRel C 0 σ s w) (args' : List Value) (ha : LRel σ (· < s.nx) args args') :
    Calls C.P f args'.toArray w fun e w' => e = .returned v ∧ Below w.heap.size w w' := by
  refine (call_ok ok hN hI hM N (B := 0) hs σ w args' h ha).mono ?_
  rintro e w' ⟨v', σ', rfl, h1, h2, h3⟩
  rw [h1.of_flat hv]
  exact ⟨rfl, ⟨h3.os, h3.tape, h3.output, h3.size, fun k hk => h3.frame k hk (fun i hi => absurd hi (hfix i))⟩⟩
end
/-- nothing is known -/
def emptyS : St := { h := .e, nx := 0 }
theorem emptyS_get (i : Nat) : Tr.get emptyS.h i = none := Tr.get_e i
theorem empty_rel {C : Cx} (hG : C.G = 0) (w : World) : HRel C 0 (fun _ => ⟨0, 0⟩) emptyS w where
  big := Nat.zero_le _
  lt := fun i o hi => by rw [emptyS_get] at hi; cases hi
  obj := fun i o hi => by rw [emptyS_get] at hi; cases hi
  inj := fun i j ⟨o, hi, _⟩ => by rw [emptyS_get] at hi; cases hi
  glob := fun g hg => by rw [hG] at hg; cases hg
theorem empty_fixed : ∀ i, ¬ LiveW emptyS i := fun i h => by obtain ⟨o, hi, _⟩ := h; rw [emptyS_get] at hi; cases hi
end Go.Proofs.YtoddlefhlicfiaaGreatDoorR.X
