/- A range over a function whose iterator itself ranges over functions: one law for the caller, one contract for the iterator. Rounds may write what lies ahead of the iterator's own blocks; of cells only those that G lets. -/
import Derived.RangeFuncNested
import Derived.RangeFuncBound
import Derived.RangeFuncCalls
import Derived.RangeFuncLeaves
import Derived.RangeFuncFrom
namespace Go.Proofs.Ytpogicakpgpkcaa.It
open Go.RowKit
variable {P : Program}

/-- What was said of blocks below B stands while blocks from B on are laid or turned. -/
def Steady {β : Type} (B : Nat) (J : β → World → Prop) : Prop := ∀ s A A' row, J s A → A.grownBy A' row → (∀ r, row = some r → B ≤ r) → J s A'
theorem Steady.alloc {β : Type} {B : Nat} {J : β → World → Prop} (h : Steady B J) {s : β} {W : World} (o : Obj) (hs : J s W) : J s (W.alloc o) :=
  h s W _ none hs (World.grownBy_alloc W o none) (fun r e => by cases e)
theorem Steady.putObj {β : Type} {B : Nat} {J : β → World → Prop} (h : Steady B J) {s : β} {W : World} {l : Nat} (o : Obj) (hs : J s W) (hl : B ≤ l) : J s (W.putObj l o) :=
  h s W _ (some l) hs (grownBy_putObj' W l o) (fun r e => by cases e; exact hl)
theorem Steady.below {β : Type} {B : Nat} {J : β → World → Prop} (h : Steady B J) {s : β} {W W' : World} (hs : J s W) (hb : Below W.heap.size W W') : J s W' :=
  h s W _ none hs ⟨hb.os, hb.tape, hb.output, hb.size, fun k hk _ => hb.block k hk⟩ (fun r e => by cases e)
theorem Steady.and {β : Type} {B : Nat} {J J' : β → World → Prop} (h : Steady B J) (h' : Steady B J') : Steady B (fun s W => J s W ∧ J' s W) :=
  fun s A A' row hs hg hr => ⟨h s A A' row hs.1 hg hr, h' s A A' row hs.2 hg hr⟩
theorem steady_below {β : Type} {n₀ B : Nat} {w₀ : World} (hn : n₀ ≤ w₀.heap.size) (hB : n₀ ≤ B) : Steady B (fun (_ : β) W => Below n₀ w₀ W) :=
  fun _ _ _ _ hs hg hr => hs.grown hg (Nat.le_trans hn hs.size) (fun k e => Nat.le_trans hB (hr k e))
theorem steady_block {β : Type} {B : Nat} (k : β → Nat) (o : β → Obj) (hk : ∀ s, k s < B) : Steady B (fun s W => W.heap[k s]? = some (o s)) :=
  fun s _ _ _ hs hg hr => (hg.block (k s) (Array.getElem?_eq_some_iff.1 hs).1 (fun e => by have := hr _ e.symm; have := hk s; omega)).trans hs
theorem steady_pure {β : Type} {B : Nat} (q : β → Prop) : Steady B (fun s (_ : World) => q s) := fun _ _ _ _ hs _ _ => hs

/-- What a round that goes on keeps: cells but those of G, and whatever lies from B on. -/
structure Keep (G : Nat → Prop) (B : Nat) (W W' : World) : Prop where
  size : W.heap.size ≤ W'.heap.size
  same : ∀ (k : Nat) (o : Obj), ¬ G k → W.heap[k]? = some o → (o.isCells = true ∨ B ≤ k) → W'.heap[k]? = some o
theorem Keep.refl (G : Nat → Prop) (B : Nat) (W : World) : Keep G B W W := ⟨Nat.le_refl _, fun _ _ _ h _ => h⟩
theorem Keep.trans {G : Nat → Prop} {B : Nat} {W1 W2 W3 : World} (h : Keep G B W1 W2) (k : Keep G B W2 W3) : Keep G B W1 W3 :=
  ⟨Nat.le_trans h.size k.size, fun i o hi ho hc => k.same i o hi (h.same i o hi ho hc) hc⟩
theorem Keep.mono {G : Nat → Prop} {B B' : Nat} {W W' : World} (h : Keep G B W W') (hB : B ≤ B') : Keep G B' W W' :=
  ⟨h.size, fun k o hk ho hc => h.same k o hk ho (hc.imp id (fun x => Nat.le_trans hB x))⟩
theorem Keep.below {G : Nat → Prop} {B : Nat} {W1 W2 : World} (h : Below W1.heap.size W1 W2) : Keep G B W1 W2 :=
  ⟨h.size, fun k _ _ ho _ => (h.block k (Array.getElem?_eq_some_iff.1 ho).1).trans ho⟩
theorem Keep.putObj {G : Nat → Prop} {B : Nat} (W : World) (l : Nat) (o o' : Obj) (hl : W.heap[l]? = some o) (ho : o.isCells = false) (hB : l < B) : Keep G B W (W.putObj l o') := by
  refine ⟨by simp, fun k x _ hx hc => ?_⟩
  by_cases e : k = l
  · subst e; rw [hl] at hx; injection hx with hx; subst hx
    rcases hc with hc | hc
    · rw [ho] at hc; cases hc
    · omega
  · rw [World.putObj_heap_other e]; exact hx
theorem Keep.cell {G : Nat → Prop} {B : Nat} {W W' : World} (h : Keep G B W W') {a : Addr} {v : Value} (hc : W.cell? a = some v) (hg : ¬ G a.block) : W'.cell? a = some v := by
  obtain ⟨o, ho, hi⟩ := cells_of_cell hc
  have := h.same a.block o hg ho (.inl hi)
  exact (World.cell?_of_block (this.trans ho.symm)).trans hc
theorem Keep.setCell {G : Nat → Prop} {B : Nat} (g i : Nat) (W : World) (v : Value) (hg : G g) : Keep G B W (W.setCell ⟨g, i, none⟩ v) := by
  refine ⟨by simp [World.setCell], fun k o hk ho _ => ?_⟩
  rw [← ho]; exact Below.heap_setCell W ⟨g, i, none⟩ v k (fun e => hk (by rw [e]; exact hg))

theorem Keep.at {G : Nat → Prop} {B : Nat} {W W' : World} (h : Keep G B W W') {k : Nat} (hg : ¬ G k) (hk : k < W.heap.size) (hB : B ≤ k) : W'.heap[k]? = W.heap[k]? := by
  have e := Array.getElem?_eq_getElem hk
  rw [e]; exact h.same k _ hg e (.inr hB)
/-- THE ITERATOR's CONTRACT: what comes (S), or what has come where a round said 'no more' (Sp). -/
def Iter {α : Type} (P : Program) (n gf : Nat) (lb : Array Value) (encs : α → Array Value) (G : Nat → Prop) (S Sp : List α → Prop) (w : World) : Prop :=
  ∀ (l : Nat) (J Jx : List α → World → Prop) (W : World), Below w.heap.size w W → Steady W.heap.size J → Steady W.heap.size Jx →
    (∀ pre x W1, J pre W1 → YieldAt Fence.wide (n - 1) P l (encs x) W1 fun e W' =>
      (e = .returned (.bool true) ∧ J (pre ++ [x]) W' ∧ Keep G W.heap.size W1 W') ∨ (e = .returned (.bool false) ∧ Jx (pre ++ [x]) W' ∧ Keep G W.heap.size W1 W')) →
    J [] W →
    CallsIn Fence.wide n P gf (#[.func (.yield l) #[] #[]] ++ lb) W fun e W' => (∃ v, e = .returned v) ∧ ((∃ xs, S xs ∧ J xs W') ∨ (∃ pre, Sp pre ∧ Jx pre W'))

/-- How a round's body is left. -/
def bodyP {α : Type} (G : Nat → Prop) (D : Nat) (I : List α → World → Prop) (Ix : Code → List α → World → Prop) (xs : List α) (W : World) : Exit → Act → World → Prop
  | .normal, _, W' => W'.heap[D]? = W.heap[D]? ∧ W'.heap[D + 1]? = W.heap[D + 1]? ∧ Keep G (D + 2) W W' ∧ I xs W'
  | .ret, _, W' => W'.heap[D]? = W.heap[D]? ∧ W'.heap[D + 1]? = W.heap[D + 1]? ∧ Keep G (D + 2) W W' ∧ Ix .ret xs W'
  | .exit id, _, W' => W'.heap[D]? = W.heap[D]? ∧ W'.heap[D + 1]? = W.heap[D + 1]? ∧ Keep G (D + 2) W W' ∧ Ix (.exit id) xs W'
  | .goto t, _, W' => W'.heap[D]? = W.heap[D]? ∧ W'.heap[D + 1]? = W.heap[D + 1]? ∧ Keep G (D + 2) W W' ∧ Ix (.goto t) xs W'
  | _, _, _ => False

/-- THE CALLER's LAW, at a loop that stands in no other loop's round. -/
theorem wp_range {α : Type} {n : Nat} {g : Operand} {ps : Array Tmp} {assign body : Code} {Q : Exit → Act → World → Prop} {a : Act} {w : World}
    {gf : Nat} {lb : Array Value} (hg : a.eval g = .func (.func gf) #[] lb) (eg : ∀ args w, (callFunc gf args).run P w = .ok (.enter gf args) w)
    {encs : α → Array Value} {G : Nat → Prop} {S Sp : List α → Prop} {w0 : World} (hseq : Iter P (n - 1) gf lb encs G S Sp w0) (hb0 : Below w0.heap.size w0 w) (hps : ∀ x, (encs x).size = ps.size)
    (I : List α → World → Prop) (Ix : Code → List α → World → Prop) (hI : Steady w.heap.size I) (hIx : ∀ c, Steady w.heap.size (Ix c)) (h0 : I [] w) (a₁ : α → Act)
    (hassign : ∀ (x : α) (W : World) (K : Act → World → Prop), K (a₁ x) W →
      assign.wpIn (Fence.wide.inRound (w.heap.size + 1)) (n - 1 - 1) P (Exit.then K (fun _ _ _ => False)) { tmps := (ps.zip (encs x)).foldl (fun t (p, v) => t.setIfInBounds p v) a.tmps, defers := [] } W)
    (hbody : ∀ (pre : List α) (x : α) (W : World), I pre W → w.heap.size + 2 ≤ W.heap.size → body.wpIn (Fence.wide.inRound (w.heap.size + 1)) (n - 1 - 1) P (bodyP G w.heap.size I Ix (pre ++ [x]) W) (a₁ x) W)
    (hdone : ∀ (xs : List α) (W : World), S xs → I xs W → W.heap[w.heap.size]? = some (.deferred (some [])) → Q .normal { a with defers := { target := .collected w.heap.size, args := #[] } :: a.defers } W)
    (hstop : ∀ (c : Code) (pre : List α) (W : World), Sp pre → Ix c pre W → W.heap[w.heap.size]? = some (.deferred (some [])) → c.wpIn Fence.wide n P Q { a with defers := { target := .collected w.heap.size, args := #[] } :: a.defers } W) :
    (Code.rangeFunc g ps assign body).wpIn Fence.wide n P Q a w := by
  refine wpIn_rangeFunc ?_
  intro fn _
  obtain ⟨rec, hrec⟩ : ∃ rec : LoopState → Option Code → Loop, rec = fun st pe => { state := st, pending := pe, fn, tmps := a.tmps, params := ps, assign, body, defers := w.heap.size } := ⟨_, rfl⟩
  obtain ⟨W1, hW1⟩ : ∃ W1, (w.alloc (.deferred (some []))).alloc (.loop (rec .ready none)) = W1 := ⟨_, rfl⟩
  have hsz1 : W1.heap.size = w.heap.size + 2 := by rw [← hW1]; simp
  have hL1 : W1.heap[w.heap.size + 1]? = some (.loop (rec .ready none)) := by
    rw [← hW1]; have := World.alloc_heap_new (w.alloc (.deferred (some []))) (.loop (rec .ready none)); rwa [World.size_alloc] at this
  have hK1 : W1.heap[w.heap.size]? = some (.deferred (some [])) := by
    rw [← hW1]; exact (Below.heap_alloc _ _ _ (by simp)).trans (World.alloc_heap_new w _)
  have hI1 : I [] W1 := by rw [← hW1]; exact hI.alloc _ (hI.alloc _ h0)
  have hb1 : Below w0.heap.size w0 W1 := by
    rw [← hW1]; exact hb0.trans ((((Below.refl _ w).alloc (Nat.le_refl _) _).alloc (by simp) _).mono hb0.size)
  refine ⟨w.heap.size + 1, [{ target := .collected w.heap.size, args := #[] }], W1, { target := .fn (.func gf) lb, args := #[.func (.yield (w.heap.size + 1)) #[] #[]] }, W1, gf,
    #[.func (.yield (w.heap.size + 1)) #[] #[]] ++ lb, W1, ?_, ?_, fun _ _ => trivial, ?_, fun h => by simp [Fence.wide] at h, ?_⟩
  · rw [← hW1, hrec]; exact run_enterLoop_outer _ _ _ _ _
  · simp only [resolve, hg]
    simp [go_sem]
  · simp [invoke, go_sem, eg]
  · have st : ∀ {β : Type} (J : β → World → Prop), Steady w.heap.size J → Steady W1.heap.size J := fun J h s A A' row hs hgr hr => h s A A' row hs hgr (fun r e => by have := hr r e; omega)
    have book : ∀ (o : Obj), Steady W1.heap.size (fun (_ : List α) W => W.heap[w.heap.size + 1]? = some o) := fun o => steady_block (fun _ => w.heap.size + 1) (fun _ => o) (fun _ => by omega)
    have book2 : Steady W1.heap.size (fun (_ : List α) W => W.heap[w.heap.size]? = some (.deferred (some []))) := steady_block (fun _ => w.heap.size) (fun _ => .deferred (some [])) (fun _ => by omega)
    refine (hseq (w.heap.size + 1)
      (fun pre W => I pre W ∧ (W.heap[w.heap.size + 1]? = some (.loop (rec .ready none)) ∧ W.heap[w.heap.size]? = some (.deferred (some []))))
      (fun pre W => ∃ c, Ix c pre W ∧ (W.heap[w.heap.size + 1]? = some (.loop (rec .done (some c))) ∧ W.heap[w.heap.size]? = some (.deferred (some []))))
      W1 hb1
      (Steady.and (st _ hI) (Steady.and (book _) book2))
      (fun s A A' row hs hgr hr => by
        obtain ⟨c, hc⟩ := hs
        exact ⟨c, (Steady.and (st _ (hIx c)) (Steady.and (book _) book2)) s A A' row hc hgr hr⟩)
      ?_ ⟨hI1, hL1, hK1⟩).mono ?_
    · rintro pre x W ⟨hi, hl, hk⟩
      have hlt : w.heap.size + 1 < W.heap.size := (Array.getElem?_eq_some_iff.1 hl).1
      have hy := run_yield (P := P) (args := encs x) hl (by rw [hrec]; exact hps x)
      rw [hrec] at hy
      refine ⟨fn, _, assign, body, hy, roundIn_of_wpIn trivial (hassign x W _ ⟨_, run_beginRound hl (by rw [hrec]), ?_⟩)⟩
      obtain ⟨Wb, hWb⟩ : ∃ Wb, W.putObj (w.heap.size + 1) (.loop { rec .ready none with state := .busy }) = Wb := ⟨_, rfl⟩
      have hl2 : Wb.heap[w.heap.size + 1]? = some (.loop { rec .ready none with state := .busy }) := by rw [← hWb]; exact World.putObj_heap_same hlt
      have hk2 : Wb.heap[w.heap.size]? = some (.deferred (some [])) := by rw [← hWb]; exact (World.putObj_heap_other (by omega)).trans hk
      have hw2 : Keep G W1.heap.size W Wb := by rw [← hWb]; exact Keep.putObj _ _ _ _ hl rfl (by omega)
      have hib : I pre Wb := by rw [← hWb]; exact hI.putObj _ hi (by omega)
      have hszb : w.heap.size + 2 ≤ Wb.heap.size := by have := (Array.getElem?_eq_some_iff.1 hl2).1; omega
      rw [hWb]
      refine wpIn_mono (hbody pre x _ hib hszb) ?_
      have fin : ∀ (jump : Option Code) (W3 : World), W3.heap[w.heap.size]? = Wb.heap[w.heap.size]? → W3.heap[w.heap.size + 1]? = Wb.heap[w.heap.size + 1]? →
          (Instr.endRound (w.heap.size + 1) jump).run P W3 = .ok (.bool jump.isNone) (W3.putObj (w.heap.size + 1) (.loop (rec (if jump.isNone then .ready else .done) jump))) ∧
          W3.heap[w.heap.size + 1]? = some (.loop { rec .ready none with state := .busy }) ∧
          (W3.putObj (w.heap.size + 1) (.loop (rec (if jump.isNone then .ready else .done) jump))).heap[w.heap.size + 1]? = some (.loop (rec (if jump.isNone then .ready else .done) jump)) ∧
          (W3.putObj (w.heap.size + 1) (.loop (rec (if jump.isNone then .ready else .done) jump))).heap[w.heap.size]? = some (.deferred (some [])) := fun jump W3 e0 e1 => by
        have hl3 := e1.trans hl2
        have := run_endRound (P := P) jump hl3
        rw [hrec] at this ⊢
        exact ⟨this, by rw [hrec] at hl3; exact hl3, World.putObj_heap_same (Array.getElem?_eq_some_iff.1 hl3).1, (World.putObj_heap_other (by omega)).trans (e0.trans hk2)⟩
      rintro e a3 W3 hp
      cases e with
      | normal =>
        obtain ⟨e0, e1, hkp, hi3⟩ := hp
        obtain ⟨hr, hl3, hl4, hk4⟩ := fin none W3 e0 e1
        exact ⟨_, _, hr, .inl ⟨rfl, ⟨hI.putObj _ hi3 (by omega), hl4, hk4⟩, (hw2.trans (hkp.mono (by omega))).trans (Keep.putObj _ _ _ _ hl3 rfl (by omega))⟩⟩
      | ret =>
        obtain ⟨e0, e1, hkp, hi3⟩ := hp
        obtain ⟨hr, hl3, hl4, hk4⟩ := fin (some .ret) W3 e0 e1
        exact ⟨_, _, hr, .inr ⟨rfl, ⟨.ret, (hIx _).putObj _ hi3 (by omega), hl4, hk4⟩, (hw2.trans (hkp.mono (by omega))).trans (Keep.putObj _ _ _ _ hl3 rfl (by omega))⟩⟩
      | exit id =>
        obtain ⟨e0, e1, hkp, hi3⟩ := hp
        obtain ⟨hr, hl3, hl4, hk4⟩ := fin (some (.exit id)) W3 e0 e1
        exact ⟨_, _, hr, .inr ⟨rfl, ⟨.exit id, (hIx _).putObj _ hi3 (by omega), hl4, hk4⟩, (hw2.trans (hkp.mono (by omega))).trans (Keep.putObj _ _ _ _ hl3 rfl (by omega))⟩⟩
      | goto t =>
        obtain ⟨e0, e1, hkp, hi3⟩ := hp
        obtain ⟨hr, hl3, hl4, hk4⟩ := fin (some (.goto t)) W3 e0 e1
        exact ⟨_, _, hr, .inr ⟨rfl, ⟨.goto t, (hIx _).putObj _ hi3 (by omega), hl4, hk4⟩, (hw2.trans (hkp.mono (by omega))).trans (Keep.putObj _ _ _ _ hl3 rfl (by omega))⟩⟩
      | panic ch => exact hp.elim
      | outgrown => exact hp.elim
    · rintro e W2 ⟨⟨v, rfl⟩, (⟨xs, hS, hi, hl, hk⟩ | ⟨pre, hSp, c, hi, hl, hk⟩)⟩
      · exact ⟨none, _, by have := run_endLoop (P := P) hl (by rw [hrec]; simp); rw [hrec] at this; exact this, hdone xs _ hS (hI.putObj _ hi (by omega)) ((World.putObj_heap_other (by omega)).trans hk)⟩
      · exact ⟨some c, _, by have := run_endLoop (P := P) hl (by rw [hrec]; simp); rw [hrec] at this; exact this, hstop c pre _ hSp ((hIx c).putObj _ hi (by omega)) ((World.putObj_heap_other (by omega)).trans hk)⟩

theorem Steady.mono {β : Type} {B B' : Nat} {J : β → World → Prop} (h : Steady B J) (hB : B ≤ B') : Steady B' J := fun s A A' row hs hg hr => h s A A' row hs hg (fun r e => Nat.le_trans hB (hr r e))
theorem steady_keep {β : Type} {G : Nat → Prop} {B C : Nat} {w : World} (hB : w.heap.size ≤ B) : Steady B (fun (_ : β) W => Keep G C w W) :=
  fun _ A A' _ hs hg hr => ⟨Nat.le_trans hs.size hg.size, fun k o hk ho hc => by
    have hlt := (Array.getElem?_eq_some_iff.1 ho).1
    have h1 := hs.same k o hk ho hc
    exact (hg.block k (Array.getElem?_eq_some_iff.1 h1).1 (fun e => by have := hr _ e.symm; omega)).trans h1⟩
/-- An outer loop's round, called from an inner loop's round. -/
theorem yield_inRound {D m m' l : Nat} {args : Array Value} {W : World} {R : Ending → World → Prop} (h : YieldAt Fence.wide m P l args W R) : YieldAt (Fence.wide.inRound D) m' P l args W R := by
  obtain ⟨fn, tmps, as, bd, hy, _, h2⟩ := h
  exact ⟨fn, tmps, as, bd, hy, trivial, fun c cs _ => h2 c cs (room_wide _)⟩
theorem callsIn_inRound {D n : Nat} {f : FuncId} {args : Array Value} {w : World} {R : Ending → World → Prop} : CallsIn (Fence.wide.inRound D) n P f args w R ↔ Calls P f args w R :=
  ⟨fun h cs => let ⟨e, w', fr, r, s, x⟩ := h.2 cs (room_wide _); ⟨e, w', fr, r, comesIn_wide.1 s, x⟩,
   fun h => ⟨trivial, fun cs _ => let ⟨e, w', fr, r, s, x⟩ := h cs; ⟨e, w', fr, r, comesIn_wide.2 s, x⟩⟩⟩

/-- The caller's law, its round's frame told by what is set in it. -/
theorem wp_range_set {α : Type} {n : Nat} {g : Operand} {ps : Array Tmp} {assign body : Code} {Q : Exit → Act → World → Prop} {a : Act} {w : World}
    {gf : Nat} {lb : Array Value} (up : α → Array Value → Array Value) (encs : α → Array Value) (G : Nat → Prop) (I : List α → World → Prop) (Ix : Code → List α → World → Prop) (hg : a.eval g = .func (.func gf) #[] lb) (eg : ∀ args w, (callFunc gf args).run P w = .ok (.enter gf args) w)
    {S Sp : List α → Prop} {w0 : World} (hseq : Iter P (n - 1) gf lb encs G S Sp w0) (hb0 : Below w0.heap.size w0 w) (hps : ∀ x, (encs x).size = ps.size)
    (hI : Steady w.heap.size I) (hIx : ∀ c, Steady w.heap.size (Ix c)) (h0 : I [] w)
    (hassign : ∀ (x : α) (W : World) (K : Act → World → Prop), K { tmps := up x a.tmps, defers := [] } W →
      assign.wpIn (Fence.wide.inRound (w.heap.size + 1)) (n - 1 - 1) P (Exit.then K (fun _ _ _ => False)) { tmps := (ps.zip (encs x)).foldl (fun t (p, v) => t.setIfInBounds p v) a.tmps, defers := [] } W)
    (hbody : ∀ (pre : List α) (x : α) (W : World), I pre W → w.heap.size + 2 ≤ W.heap.size → body.wpIn (Fence.wide.inRound (w.heap.size + 1)) (n - 1 - 1) P (bodyP G w.heap.size I Ix (pre ++ [x]) W) { tmps := up x a.tmps, defers := [] } W)
    (hdone : ∀ (xs : List α) (W : World), S xs → I xs W → W.heap[w.heap.size]? = some (.deferred (some [])) → Q .normal { a with defers := { target := .collected w.heap.size, args := #[] } :: a.defers } W)
    (hstop : ∀ (c : Code) (pre : List α) (W : World), Sp pre → Ix c pre W → W.heap[w.heap.size]? = some (.deferred (some [])) → c.wpIn Fence.wide n P Q { a with defers := { target := .collected w.heap.size, args := #[] } :: a.defers } W) :
    (Code.rangeFunc g ps assign body).wpIn Fence.wide n P Q a w :=
  wp_range hg eg hseq hb0 hps I Ix hI hIx h0 (fun x => { tmps := up x a.tmps, defers := [] }) hassign hbody hdone hstop

/-- A mark among the deferred calls. -/
def markD (D : Nat) : Deferred := { target := .collected D, args := #[] }
/-- The marks' blocks stand. -/
def Marked (W : World) (Ds : List Nat) : Prop := Ds.Nodup ∧ ∀ D ∈ Ds, W.heap[D]? = some (.deferred (some []))
theorem Marked.kept {G : Nat → Prop} {B : Nat} {W W' : World} {Ds : List Nat} (h : Marked W Ds) (hk : Keep G B W W') (hG : ∀ k, G k → k < B) (hB : ∀ D ∈ Ds, B ≤ D) : Marked W' Ds :=
  ⟨h.1, fun D hD => hk.same D _ (fun e => by have := hG _ e; have := hB D hD; omega) (h.2 D hD) (.inr (hB D hD))⟩
theorem Marked.cons {W : World} {Ds : List Nat} {D : Nat} (h : Marked W Ds) (hD : W.heap[D]? = some (.deferred (some []))) (hn : ¬ D ∈ Ds) : Marked W (D :: Ds) := by
  refine ⟨List.nodup_cons.2 ⟨hn, h.1⟩, fun E hE => ?_⟩
  rcases List.mem_cons.1 hE with e | hE
  · rw [e]; exact hD
  · exact h.2 E hE
theorem Marked.lt {W : World} {Ds : List Nat} (h : Marked W Ds) {D : Nat} (hD : D ∈ Ds) : D < W.heap.size := (Array.getElem?_eq_some_iff.1 (h.2 D hD)).1
/-- The way out of a function whose loops have left marks. -/
theorem leaves_marks {n : Nat} {fn : Func} {tmps : Array Value} {R : Ending → World → Prop} {B : Nat} (J : Unit → World → Prop) (hJ : Steady B J) (hR : ∀ W, J () W → ∃ v, (results fn tmps).run P W = .ok v W ∧ R (.returned v) W) :
    ∀ (Ds : List Nat) (W : World), Marked W Ds → (∀ D ∈ Ds, B ≤ D) → J () W → LeavesInM Fence.wide n P fn tmps R (Ds.map markD) .returning W
  | [], W, _, _, hj => hR W hj
  | D :: Ds, W, hm, hB, hj => by
    refine ⟨by simp, .inl ⟨D, _, rfl, run_takeDeferred (hm.2 D (by simp)), ?_⟩⟩
    refine leaves_marks J hJ hR Ds _ ⟨(List.nodup_cons.1 hm.1).2, fun E hE => ?_⟩ (fun E hE => hB E (by simp [hE])) (hJ.putObj _ hj (hB D (by simp)))
    rw [World.putObj_heap_other (fun e => (List.nodup_cons.1 hm.1).1 (by rw [← e]; exact hE))]
    exact hm.2 E (by simp [hE])
end Go.Proofs.Ytpogicakpgpkcaa.It
