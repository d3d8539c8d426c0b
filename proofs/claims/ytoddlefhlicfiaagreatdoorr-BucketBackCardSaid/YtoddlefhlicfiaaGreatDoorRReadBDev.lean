/- bucket.Read: what it does. No statement of the seat stands here. -/
import Derived.Test.YtoddlefhlicfiaaGreatDoorRRdMath
import Derived.Laws.ResultCell
set_option linter.unusedSimpArgs false
set_option linter.unusedVariables false
namespace Go.Proofs.YtoddlefhlicfiaaGreatDoorR.RdrDev
open Go Go.RowKit Go.Proofs.Bb
theorem four {W : World} {g : Nat} {a b c d : Value} {t : Nat} (h : W.heap[g]? = some (.cells #[a, b, c, d] t)) : W.cell? ⟨g, 0, none⟩ = some a ∧ W.cell? ⟨g, 1, none⟩ = some b ∧ W.cell? ⟨g, 2, none⟩ = some c ∧ W.cell? ⟨g, 3, none⟩ = some d ∧ (∀ j, W.frozen? ⟨g, j, none⟩ = false) :=
  ⟨by simp [World.cell?, h], by simp [World.cell?, h], by simp [World.cell?, h], by simp [World.cell?, h], fun j => by simp [World.frozen?, h]⟩
def mOf (W : World) (N : Nat) : Nat := match W.cell? ⟨N + 2, 0, none⟩ with
  | some (.int _ n) => n.toNat
  | _ => 0
theorem mOf_at {W : World} {N : Nat} {n : Int} (h : W.cell? ⟨N + 2, 0, none⟩ = some (.int .i64 n)) : mOf W N = n.toNat := by unfold mOf; rw [h]
theorem one_ {W : World} {g : Nat} {a : Value} {t : Nat} (h : W.heap[g]? = some (.cells #[a] t)) : W.cell? ⟨g, 0, none⟩ = some a ∧ (∀ j, W.frozen? ⟨g, j, none⟩ = false) :=
  ⟨by simp [World.cell?, h], fun j => by simp [World.frozen?, h]⟩
theorem lt_of_block {W : World} {g : Nat} {o : Obj} (h : W.heap[g]? = some o) : g < W.heap.size := (Array.getElem?_eq_some_iff.1 h).1
theorem at_cells {W : World} {g : Nat} {c : Array Value} {t : Nat} (h : W.heap[g]? = some (.cells c t)) (j : Nat) : W.cell? ⟨g, j, none⟩ = c[j]? ∧ W.frozen? ⟨g, j, none⟩ = false := ⟨by simp [World.cell?, h], by simp [World.frozen?, h]⟩
theorem info_bucket : (Tryz.prog.info? 24).map (·.size) = some 4 := by kernel_rfl
theorem load4 {W : World} {g : Nat} {a b c d : Value} (c0 : W.cell? ⟨g, 0, none⟩ = some a) (c1 : W.cell? ⟨g, 1, none⟩ = some b) (c2 : W.cell? ⟨g, 2, none⟩ = some c) (c3 : W.cell? ⟨g, 3, none⟩ = some d) : (loadVar 24 ⟨g, 0, none⟩).run Tryz.prog W = .ok (.agg #[a, b, c, d]) W := by
  have hagg : (isAgg 24).run Tryz.prog W = .ok true W := by
    unfold isAgg
    rw [Sem.run_bind, run_underlying Tryz.underlying24 W]
    rfl
  have hl : (loadCells ⟨g, 0, none⟩ 4).run Tryz.prog W = .ok #[a, b, c, d] W := by
    have := run_loadCells_list (P := Tryz.prog) W ⟨g, 0, none⟩ [a, b, c, d] (fun j v hj => by
      rw [add_at]
      match j, hj with
      | 0, hj => simp at hj; rw [← hj]; exact c0
      | 1, hj => simp at hj; rw [← hj]; exact c1
      | 2, hj => simp at hj; rw [← hj]; exact c2
      | 3, hj => simp at hj; rw [← hj]; exact c3)
    simpa using this
  obtain ⟨i, hi, hs⟩ := Option.map_eq_some_iff.1 info_bucket
  simp [loadVar, Sem.run_bind, hagg, sizeOf, typeInfo, hi, hs, hl]
theorem ret_bucket {fn : Func} {R : Ending → World → Prop} {A : Act} {W : World} {g : Nat} {a b c d u : Value} (hf : fn.results = #[.cell 2 24, .tmp 3]) (h2 : A.tmps.getD 2 undef = .pointer (some ⟨g, 0, none⟩)) (h3 : A.tmps.getD 3 undef = u) (hd : A.defers = []) (c0 : W.cell? ⟨g, 0, none⟩ = some a) (c1 : W.cell? ⟨g, 1, none⟩ = some b) (c2 : W.cell? ⟨g, 2, none⟩ = some c) (c3 : W.cell? ⟨g, 3, none⟩ = some d) (hR : R (.returned (.tuple #[.agg #[a, b, c, d], u])) W) : bodyPost Tryz.prog fn R .ret A W := by
  refine bodyPost_ret_by ?_ hd hR
  rw [results_cell_tmp hf, h2, h3]
  simp only [asAddr, Sem.run_pure, Result.andThen]
  rw [load4 c0 c1 c2 c3]
theorem set4 {W : World} {g : Nat} {a b c d a' b' c' d' : Value} (c0 : W.cell? ⟨g, 0, none⟩ = some a) (c1 : W.cell? ⟨g, 1, none⟩ = some b) (c2 : W.cell? ⟨g, 2, none⟩ = some c) (c3 : W.cell? ⟨g, 3, none⟩ = some d) (W' : World) (hW : W' = (((W.setCell ⟨g, 0, none⟩ a').setCell ⟨g, 1, none⟩ b').setCell ⟨g, 2, none⟩ c').setCell ⟨g, 3, none⟩ d') : W'.cell? ⟨g, 0, none⟩ = some a' ∧ W'.cell? ⟨g, 1, none⟩ = some b' ∧ W'.cell? ⟨g, 2, none⟩ = some c' ∧ W'.cell? ⟨g, 3, none⟩ = some d' := by
  subst hW
  refine ⟨?_, ?_, ?_, ?_⟩
  · rw [World.cell?_setCell_other _ _ _ _ (by simp), World.cell?_setCell_other _ _ _ _ (by simp), World.cell?_setCell_other _ _ _ _ (by simp)]
    exact World.cell?_setCell_same _ _ _ c0
  · rw [World.cell?_setCell_other _ _ _ _ (by simp), World.cell?_setCell_other _ _ _ _ (by simp)]
    exact World.cell?_setCell_same _ _ _ (by rw [World.cell?_setCell_other _ _ _ _ (by simp)]; exact c1)
  · rw [World.cell?_setCell_other _ _ _ _ (by simp)]
    exact World.cell?_setCell_same _ _ _ (by rw [World.cell?_setCell_other _ _ _ _ (by simp), World.cell?_setCell_other _ _ _ _ (by simp)]; exact c2)
  · exact World.cell?_setCell_same _ _ _ (by rw [World.cell?_setCell_other _ _ _ _ (by simp), World.cell?_setCell_other _ _ _ _ (by simp), World.cell?_setCell_other _ _ _ _ (by simp)]; exact c3)
theorem below4 {W0 W : World} {g : Nat} (a' b' c' d' : Value) (h : Below g W0 W) : Below g W0 ((((W.setCell ⟨g, 0, none⟩ a').setCell ⟨g, 1, none⟩ b').setCell ⟨g, 2, none⟩ c').setCell ⟨g, 3, none⟩ d') := (((h.setCell (Nat.le_refl _) _).setCell (Nat.le_refl _) _).setCell (Nat.le_refl _) _).setCell (Nat.le_refl _) _
theorem four_at (w : World) (a b c d : Obj) (W : World) (h : (((w.alloc a).alloc b).alloc c).alloc d = W) : W.heap[w.heap.size]? = some a ∧ W.heap[w.heap.size + 1]? = some b ∧ W.heap[w.heap.size + 2]? = some c ∧ W.heap[w.heap.size + 3]? = some d ∧ W.heap.size = w.heap.size + 4 ∧ Below w.heap.size w W := by
  subst h
  refine ⟨?_, ?_, ?_, ?_, by simp, ((((Below.refl _ w).alloc (by simp) _).alloc (by simp) _).alloc (by simp; omega) _).alloc (by simp; omega) _⟩
  · rw [heap_alloc_old (h := by first | (simp; done) | (simp; omega)), heap_alloc_old (h := by first | (simp; done) | (simp; omega)), heap_alloc_old (h := by simp)]
    exact heap_alloc_new w a
  · rw [heap_alloc_old (h := by first | (simp; done) | (simp; omega)), heap_alloc_old (h := by simp)]
    have := heap_alloc_new (w.alloc a) b
    simpa using this
  · rw [heap_alloc_old (h := by simp)]
    have := heap_alloc_new ((w.alloc a).alloc b) c
    simpa using this
  · have := heap_alloc_new (((w.alloc a).alloc b).alloc c) d
    simpa using this
theorem tp3 {W : World} {N t1 t2 t3 : Nat} {s0 : ByteArray} {a b c : Int} {x : Value} (h1 : W.heap[N + 1]? = some (.cells #[.string s0, .int .i64 a, .int .i64 b, x] t1)) (h2 : W.heap[N + 2]? = some (.cells #[.int .i64 c] t2)) (h3 : W.heap[N + 3]? = some (.cells #[.pointer (some ⟨N + 1, 1, none⟩), .pointer (some ⟨N + 1, 2, none⟩), .pointer (some ⟨N + 2, 0, none⟩)] t3)) :
    TP W N ⟨N + 1, 0, none⟩ [⟨N + 1, 1, none⟩, ⟨N + 1, 2, none⟩, ⟨N + 2, 0, none⟩] ⟨N + 3, 0, none⟩ ∧ TK W W N ⟨N + 1, 0, none⟩ [⟨N + 1, 1, none⟩, ⟨N + 1, 2, none⟩, ⟨N + 2, 0, none⟩] s0 [a, b, c] := by
  have l1 := lt_of_block h1
  have l2 := lt_of_block h2
  have l3 := lt_of_block h3
  have three : ∀ j, j < 3 → j = 0 ∨ j = 1 ∨ j = 2 := fun j hj => by omega
  refine ⟨⟨⟨by simp, l1⟩, (at_cells h1 0).2, fun j hj => ?_, fun j hj => ?_, fun j hj => ?_, fun i j hi hj hn => ?_, fun j hj => ?_, l3, ⟨by simp, fun j hj => ?_⟩⟩, ⟨Below.refl _ _, Nat.le_refl _, (at_cells h1 0).1, fun j hj => ?_, fun _ _ _ _ => rfl, fun _ _ => rfl, rfl⟩⟩
  all_goals simp only [List.length_cons, List.length_nil, Nat.zero_add, Nat.reduceAdd] at *
  · rcases three j hj with rfl | rfl | rfl
    · exact ⟨by simp, l1⟩
    · exact ⟨by simp, l1⟩
    · exact ⟨by simp, l2⟩
  · rcases three j hj with rfl | rfl | rfl
    · exact (at_cells h1 1).2
    · exact (at_cells h1 2).2
    · exact (at_cells h2 0).2
  · rcases three j hj with rfl | rfl | rfl <;> simp
  · rcases three j hj with rfl | rfl | rfl <;> rcases three i hi with rfl | rfl | rfl <;> simp at hn ⊢
  · rw [add_at]
    rcases three j hj with rfl | rfl | rfl
    · exact (at_cells h3 0).1
    · exact (at_cells h3 1).1
    · exact (at_cells h3 2).1
  · rcases three j hj with rfl | rfl | rfl <;> simp
  · rcases three j hj with rfl | rfl | rfl
    · exact (at_cells h1 1).1
    · exact (at_cells h1 2).1
    · exact (at_cells h2 0).1
theorem tp2 {W : World} {R t1 t3 : Nat} {s0 : ByteArray} {a b : Int} (h1 : W.heap[R]? = some (.cells #[.string s0, .int .i64 a, .int .i64 b] t1)) (h3 : W.heap[R + 1]? = some (.cells #[.pointer (some ⟨R, 1, none⟩), .pointer (some ⟨R, 2, none⟩)] t3)) :
    TP W R ⟨R, 0, none⟩ [⟨R, 1, none⟩, ⟨R, 2, none⟩] ⟨R + 1, 0, none⟩ ∧ TK W W R ⟨R, 0, none⟩ [⟨R, 1, none⟩, ⟨R, 2, none⟩] s0 [a, b] := by
  have l1 := lt_of_block h1
  have l3 := lt_of_block h3
  have three : ∀ j, j < 2 → j = 0 ∨ j = 1 := fun j hj => by omega
  refine ⟨⟨⟨by simp, l1⟩, (at_cells h1 0).2, fun j hj => ?_, fun j hj => ?_, fun j hj => ?_, fun i j hi hj hn => ?_, fun j hj => ?_, l3, ⟨by simp, fun j hj => ?_⟩⟩, ⟨Below.refl _ _, Nat.le_refl _, (at_cells h1 0).1, fun j hj => ?_, fun _ _ _ _ => rfl, fun _ _ => rfl, rfl⟩⟩
  all_goals simp only [List.length_cons, List.length_nil, Nat.zero_add, Nat.reduceAdd] at *
  · rcases three j hj with rfl | rfl
    · exact ⟨by simp, l1⟩
    · exact ⟨by simp, l1⟩
  · rcases three j hj with rfl | rfl
    · exact (at_cells h1 1).2
    · exact (at_cells h1 2).2
  · rcases three j hj with rfl | rfl <;> simp
  · rcases three j hj with rfl | rfl <;> rcases three i hi with rfl | rfl <;> simp at hn ⊢
  · rw [add_at]
    rcases three j hj with rfl | rfl
    · exact (at_cells h3 0).1
    · exact (at_cells h3 1).1
  · rcases three j hj with rfl | rfl <;> simp
  · rcases three j hj with rfl | rfl
    · exact (at_cells h1 1).1
    · exact (at_cells h1 2).1
/-- the cells of a bucket that is read -/
structure RS (W : World) (N : Nat) (nm : ByteArray) (t st : Int) (rv : Value) (m : Int) : Prop where
  c0 : W.cell? ⟨N + 1, 0, none⟩ = some (.string nm)
  c1 : W.cell? ⟨N + 1, 1, none⟩ = some (.int .i64 t)
  c2 : W.cell? ⟨N + 1, 2, none⟩ = some (.int .i64 st)
  c3 : W.cell? ⟨N + 1, 3, none⟩ = some rv
  n : W.cell? ⟨N + 2, 0, none⟩ = some (.int .i64 m)
  r0 : W.cell? ⟨N, 0, none⟩ = some (.string ⟨#[]⟩)
  r1 : W.cell? ⟨N, 1, none⟩ = some (.int .i64 0)
  r2 : W.cell? ⟨N, 2, none⟩ = some (.int .i64 0)
  r3 : W.cell? ⟨N, 3, none⟩ = some (.slice none 0 0)
  fz : ∀ g j, N ≤ g → g ≤ N + 2 → W.frozen? ⟨g, j, none⟩ = false
  sz : N + 3 ≤ W.heap.size
theorem RS.keep {W W' : World} {N : Nat} {nm : ByteArray} {t st : Int} {rv : Value} {m : Int} (h : RS W N nm t st rv m) (hb : Below (N + 3) W W') : RS W' N nm t st rv m where
  c0 := by rw [hb.cell (by simp)]; exact h.c0
  c1 := by rw [hb.cell (by simp)]; exact h.c1
  c2 := by rw [hb.cell (by simp)]; exact h.c2
  c3 := by rw [hb.cell (by simp)]; exact h.c3
  n := by rw [hb.cell (by simp)]; exact h.n
  r0 := by rw [hb.cell (by simp)]; exact h.r0
  r1 := by rw [hb.cell (by simp)]; exact h.r1
  r2 := by rw [hb.cell (by simp)]; exact h.r2
  r3 := by rw [hb.cell (by simp)]; exact h.r3
  fz := fun g j h1 h2 => by rw [hb.frozen (by simp; omega)]; exact h.fz g j h1 h2
  sz := Nat.le_trans h.sz hb.size
theorem RS.setR {W : World} {N : Nat} {nm : ByteArray} {t st : Int} {rv : Value} {m : Int} (h : RS W N nm t st rv m) (u : Value) : RS (W.setCell ⟨N + 1, 3, none⟩ u) N nm t st u m where
  c0 := by rw [World.cell?_setCell_other _ _ _ _ (by simp)]; exact h.c0
  c1 := by rw [World.cell?_setCell_other _ _ _ _ (by simp)]; exact h.c1
  c2 := by rw [World.cell?_setCell_other _ _ _ _ (by simp)]; exact h.c2
  c3 := World.cell?_setCell_same _ _ _ h.c3
  n := by rw [World.cell?_setCell_other _ _ _ _ (by simp)]; exact h.n
  r0 := by rw [World.cell?_setCell_other _ _ _ _ (by simp)]; exact h.r0
  r1 := by rw [World.cell?_setCell_other _ _ _ _ (by simp)]; exact h.r1
  r2 := by rw [World.cell?_setCell_other _ _ _ _ (by simp)]; exact h.r2
  r3 := by rw [World.cell?_setCell_other _ _ _ _ (by simp)]; exact h.r3
  fz := fun g j h1 h2 => by rw [World.frozen?_setCell]; exact h.fz g j h1 h2
  sz := by rw [World.size_setCell]; exact h.sz
theorem RS.setN {W : World} {N : Nat} {nm : ByteArray} {t st : Int} {rv : Value} {m : Int} (h : RS W N nm t st rv m) (q : Int) : RS (W.setCell ⟨N + 2, 0, none⟩ (.int .i64 q)) N nm t st rv q where
  c0 := by rw [World.cell?_setCell_other _ _ _ _ (by simp)]; exact h.c0
  c1 := by rw [World.cell?_setCell_other _ _ _ _ (by simp)]; exact h.c1
  c2 := by rw [World.cell?_setCell_other _ _ _ _ (by simp)]; exact h.c2
  c3 := by rw [World.cell?_setCell_other _ _ _ _ (by simp)]; exact h.c3
  n := World.cell?_setCell_same _ _ _ h.n
  r0 := by rw [World.cell?_setCell_other _ _ _ _ (by simp)]; exact h.r0
  r1 := by rw [World.cell?_setCell_other _ _ _ _ (by simp)]; exact h.r1
  r2 := by rw [World.cell?_setCell_other _ _ _ _ (by simp)]; exact h.r2
  r3 := by rw [World.cell?_setCell_other _ _ _ _ (by simp)]; exact h.r3
  fz := fun g j h1 h2 => by rw [World.frozen?_setCell]; exact h.fz g j h1 h2
  sz := by rw [World.size_setCell]; exact h.sz
theorem RS.of {W W' : World} {N t1 t2 : Nat} {s0 s : ByteArray} {a b c : Int} {vals : List Int} (h0 : W.heap[N]? = some (.cells #[.string ⟨#[]⟩, .int .i64 0, .int .i64 0, .slice none 0 0] t1)) (h1 : W.heap[N + 1]? = some (.cells #[.string s0, .int .i64 a, .int .i64 b, .slice none 0 0] t1)) (h2 : W.heap[N + 2]? = some (.cells #[.int .i64 c] t2)) (h : TK W W' N ⟨N + 1, 0, none⟩ [⟨N + 1, 1, none⟩, ⟨N + 1, 2, none⟩, ⟨N + 2, 0, none⟩] s vals) : RS W' N s (vals.getD 0 0) (vals.getD 1 0) (.slice none 0 0) (vals.getD 2 0) where
  c0 := h.str
  c1 := h.cells 0 (by simp)
  c2 := h.cells 1 (by simp)
  c3 := by rw [h.other _ (lt_of_block h1) (by simp) (by simp)]; exact (at_cells h1 3).1
  n := h.cells 2 (by simp)
  r0 := by rw [h.other _ (lt_of_block h0) (by simp) (by simp)]; exact (at_cells h0 0).1
  r1 := by rw [h.other _ (lt_of_block h0) (by simp) (by simp)]; exact (at_cells h0 1).1
  r2 := by rw [h.other _ (lt_of_block h0) (by simp) (by simp)]; exact (at_cells h0 2).1
  r3 := by rw [h.other _ (lt_of_block h0) (by simp) (by simp)]; exact (at_cells h0 3).1
  fz := fun g j g1 g2 => by
    have l2 := lt_of_block h2
    rw [h.frozen _ (by simp; omega)]
    have : g = N ∨ g = N + 1 ∨ g = N + 2 := by omega
    rcases this with rfl | rfl | rfl
    · exact (at_cells h0 j).2
    · exact (at_cells h1 j).2
    · exact (at_cells h2 j).2
  sz := by have := lt_of_block h2; have := h.sz; omega
set_option maxHeartbeats 8000000 in
set_option maxRecDepth 100000 in
theorem read_calls (v : Value) (bs : List Nat) (w : World) (hI : In w v bs) (hl : bs.length ≤ 1000000000) :
    Calls Tryz.prog 7 #[v] w fun e w' => ((∀ x, readB okBuc bs = some x → ∃ nm t st rs rv, e = .returned (.tuple #[.agg #[.string nm, .int .i64 (t : Nat), .int .i64 (st : Nat), rv], .int .i64 0]) ∧ bucN nm t st rs = x ∧ OR w' w.heap.size rv rs ∧ ∀ r ∈ rs, Pos r) ∧ (readB okBuc bs = none → e = .returned (.tuple #[.agg #[.string ⟨#[]⟩, .int .i64 0, .int .i64 0, .slice none 0 0], .int .i64 4]))) ∧ Below w.heap.size w w' := by
  have HI := Lib.hid hI
  clear hI
  go_enter Tryz.func7, Tryz.ntmps7
  go_wp2_with fail
  generalize hw4 : ((((w.alloc _).alloc _).alloc _).alloc _) = W4
  obtain ⟨q0, q1, q2, q3, q4, q5⟩ := four_at w _ _ _ _ _ hw4
  clear hw4
  obtain ⟨tp, tk⟩ := tp3 q1 q2 q3
  have HTP := Lib.hid tp
  have HTK := Lib.hid tk
  have HI4 := Lib.hid (HI.out.below q5)
  have HW4 := Lib.hid q5
  have hRS : Hid (∀ w1 s vals, TK W4 w1 w.heap.size ⟨w.heap.size + 1, 0, none⟩ [⟨w.heap.size + 1, 1, none⟩, ⟨w.heap.size + 1, 2, none⟩, ⟨w.heap.size + 2, 0, none⟩] s vals → RS w1 w.heap.size s (vals.getD 0 0) (vals.getD 1 0) (.slice none 0 0) (vals.getD 2 0)) := fun w1 s vals h => RS.of q0 q1 q2 h
  have HSZ := Lib.hid q4
  clear tp tk q0 q1 q2 q3 q4 q5
  refine (take_calls w.heap.size v bs ⟨w.heap.size + 1, 0, none⟩ ⟨w.heap.size + 3, 0, none⟩ [⟨w.heap.size + 1, 1, none⟩, ⟨w.heap.size + 1, 2, none⟩, ⟨w.heap.size + 2, 0, none⟩] 3 _ _ W4 HI4.out hl HTP.out HTK.out (by simp) (by simp) (by have := HSZ.out; omega)).mono ?_
  rintro e w1 ⟨hs, hn⟩
  have hmain : Hid (∃ (v1 : Value) (s1 : ByteArray) (ok : Bool) (ta tb m0 : Int), e = .returned (.tuple #[v1, .bool ok]) ∧ RS w1 w.heap.size s1 ta tb (.slice none 0 0) m0 ∧ Below w.heap.size w w1 ∧ ((ok = true ∧ s1.size ≤ 65536 ∧ ∃ (a b n0 : Nat) (b1 : List Nat), ta = (a : Int) ∧ tb = (b : Int) ∧ m0 = (n0 : Int) ∧ n0 ≤ 1099511627776 ∧ OB w1 (w.heap.size + 3) v1 b1 ∧ b1.length ≤ bs.length ∧ decB bs = if n0 ≤ 8 then (decRs n0 b1).map (fun p => (⟨sn s1, a, b, p.1⟩, p.2)) else none) ∨ (ok = false ∧ readB okBuc bs = none))) := by
    cases hd : takeR 3 bs with
    | none =>
      obtain ⟨v1, s1, vals, e1, hk⟩ := hn hd
      exact ⟨v1, s1, false, _, _, _, e1, hRS.out _ _ _ hk, HW4.out.trans hk.below, .inr ⟨rfl, by simp [readB, take3_none hd]⟩⟩
    | some p =>
      obtain ⟨⟨t, ns⟩, b1⟩ := p
      obtain ⟨a, b, n0, rfl, hn0, hdec⟩ := take3_some hd
      obtain ⟨v1, s1, e1, ht, ho, hk⟩ := hs t _ b1 hd
      exact ⟨v1, s1, true, _, _, _, e1, hRS.out _ _ _ hk, HW4.out.trans hk.below, .inl ⟨rfl, by rw [← sn_len, ht]; exact take_size hd, a, b, n0, b1, rfl, rfl, rfl, hn0, ho.mono (by have := HSZ.out; omega), takeR_short hd, by rw [ht]; exact hdec⟩⟩
  obtain ⟨v1, s1, ok, ta, tb, m0, rfl, hRS1, hB1, hst⟩ := hmain.out
  have HRS1 := Lib.hid hRS1
  have HB1 := Lib.hid hB1
  have HST := Lib.hid hst
  clear hmain hs hn hRS1 hB1 hst hRS
  go_wp2_with fail
  go_loopw [0, 6] (fun v0 v6 wr => ∃ (ok : Bool) (m : Int) (rv : Value) (rsl : List RL), v6 = .bool ok ∧ rsl.length ≤ 9 ∧ Hid (RS wr w.heap.size s1 ta tb rv m) ∧ Hid (OR wr (w.heap.size + 3) rv rsl) ∧ Hid (Below w.heap.size w wr) ∧ Hid (ok = true → ∀ r ∈ rsl, Pos r) ∧ Hid ((ok = true ∧ s1.size ≤ 65536 ∧ ∃ (a b n0 k : Nat) (b1 cur : List Nat), ta = (a : Int) ∧ tb = (b : Int) ∧ m = (k : Int) ∧ rsl.length + k = n0 ∧ n0 ≤ 1099511627776 ∧ OB wr (w.heap.size + 3) v0 cur ∧ cur.length ≤ bs.length ∧ decRs n0 b1 = contR (rsl.map ruN) (decRs k cur) ∧ decB bs = if n0 ≤ 8 then (decRs n0 b1).map (fun p => (⟨sn s1, a, b, p.1⟩, p.2)) else none) ∨ (ok = false ∧ readB okBuc bs = none))) (fun _ _ wr => mOf wr w.heap.size)
  case atStart =>
    refine ⟨ok, m0, _, [], rfl, by simp, HRS1, Lib.hid (OR.nil _ _), HB1, Lib.hid (fun _ r hr => by cases hr), Lib.hid ?_⟩
    rcases HST.out with ⟨rfl, hs1, a, b, n0, b1, h1, h2, h3, h4, h5, h6, h7⟩ | ⟨rfl, h1⟩
    · exact .inl ⟨rfl, hs1, a, b, n0, n0, b1, b1, h1, h2, h3, by simp, h4, h5, h6, by simp only [contR, List.map_nil, List.nil_append]; cases decRs n0 b1 <;> rfl, h7⟩
    · exact .inr ⟨rfl, h1⟩
  case round =>
    obtain ⟨ok, m, rv, rsl, rfl, h9, hrs, hor, hb, hpos, hst⟩ := hrel
    have k0 := hrs.out.c0
    have k1 := hrs.out.c1
    have k2 := hrs.out.c2
    have k3 := hrs.out.c3
    have kn := hrs.out.n
    obtain ⟨RA, rc', rfl, hrc, hrn, hrr⟩ := hor.out.rules
    have HRR := Lib.hid hrr
    clear hrr
    rcases hst.out with ⟨rfl, hs1, a, b, n0, k, b1, cur, rfl, rfl, rfl, g1, g2, g3, g4, g5, g6⟩ | ⟨rfl, h1⟩
    · replace hpos := Lib.hid (hpos.out rfl)
      have hr0 := hrs.out.r0
      have hr1 := hrs.out.r1
      have hr2 := hrs.out.r2
      have hr3 := hrs.out.r3
      have f0 := hrs.out.fz w.heap.size 0 (by omega) (by omega)
      have f1 := hrs.out.fz w.heap.size 1 (by omega) (by omega)
      have f2 := hrs.out.fz w.heap.size 2 (by omega) (by omega)
      have f3 := hrs.out.fz w.heap.size 3 (by omega) (by omega)
      have HO := Lib.hid g3
      have HDR := Lib.hid g5
      have HDB := Lib.hid g6
      obtain ⟨CA, cc, rfl, hcc, hcn, hcb, hcl, hc256⟩ := g3.in
      clear g3 g5 g6 hst hcb hcl hc256
      by_cases hk : k = 0
      · subst hk
        have HE := Lib.hid (rb_end HDR.out HDB.out)
        cases hcur : cur with
        | cons z zs =>
          have HN := Lib.hid (show readB okBuc bs = none by
            unfold readB
            rw [HE.out]
            split
            · simp [hcur]
            · rfl)
          have hlen : ((zs.length : Int) + 1 > 0) := by omega
          subst hcur
          clear HO HDR HDB HE
          go_wp2_with fail
          all_goals first
            | (obtain ⟨y0, y1, y2, y3⟩ := set4 hr0 hr1 hr2 hr3 _ rfl
               refine ret_bucket rfl rfl rfl rfl y0 y1 y2 y3 ⟨⟨fun x hx => ?_, fun _ => rfl⟩, below4 _ _ _ _ hb.out⟩
               rw [HN.out] at hx
               cases hx)
            | (exfalso; omega)
        | nil =>
          subst hcur
          have HEQ := Lib.hid (show readB okBuc bs = if goodB s1 (a : Int) (b : Int) rsl = true then some (bucN s1 a b rsl) else none by
            unfold readB
            rw [HE.out, ok_bucket s1 a b rsl hpos.out]
            by_cases h8 : n0 ≤ 8
            · rw [if_pos h8]
              simp only [Option.bind_some, true_and]
              rfl
            · rw [if_neg h8]
              have : okBuc (bucN s1 a b rsl) = false := by
                have : rsl.length = n0 := by omega
                unfold okBuc bucN
                dsimp only
                rw [List.length_map, decide_eq_false (show ¬ rsl.length ≤ 8 by omega)]
                simp
              rw [this]
              rfl)
          clear HO HDR HDB HE
          go_wp2_with fail
          refine (chk_calls s1 (a : Int) (b : Int) RA rc' rsl (by omega) wr HRR.out hrc (by omega) (fun r hr => by have := (hpos.out r hr).2.2; omega)).mono ?_
          rintro e w5 ⟨rfl, hb5⟩
          have HRS5 := Lib.hid (hrs.out.keep (hb5.mono hrs.out.sz))
          have HB5 := Lib.hid (hb.out.trans (hb5.mono (by have := hrs.out.sz; omega)))
          have HOR5 := Lib.hid ((hor.out.below hb5))
          clear k0 k1 k2 k3 kn hr0 hr1 hr2 hr3 f0 f1 f2 f3 hb5
          have k0 := HRS5.out.c0
          have k1 := HRS5.out.c1
          have k2 := HRS5.out.c2
          have k3 := HRS5.out.c3
          have hr0 := HRS5.out.r0
          have hr1 := HRS5.out.r1
          have hr2 := HRS5.out.r2
          have hr3 := HRS5.out.r3
          have f0 := HRS5.out.fz w.heap.size 0 (by omega) (by omega)
          have f1 := HRS5.out.fz w.heap.size 1 (by omega) (by omega)
          have f2 := HRS5.out.fz w.heap.size 2 (by omega) (by omega)
          have f3 := HRS5.out.fz w.heap.size 3 (by omega) (by omega)
          cases hg : goodB s1 (a : Int) (b : Int) rsl with
          | false =>
            have HN := Lib.hid (show readB okBuc bs = none by rw [HEQ.out, hg]; rfl)
            have hE : chkE s1 (a : Int) (b : Int) rsl = 2 := by rw [chkE, hg]; rfl
            rw [hE]
            clear hE hg HEQ
            go_wp2_with fail
            obtain ⟨y0, y1, y2, y3⟩ := set4 hr0 hr1 hr2 hr3 _ rfl
            refine ret_bucket rfl rfl rfl rfl y0 y1 y2 y3 ⟨⟨fun x hx => ?_, fun _ => rfl⟩, below4 _ _ _ _ HB5.out⟩
            rw [HN.out] at hx
            cases hx
          | true =>
            have HN := Lib.hid (show readB okBuc bs = some (bucN s1 (a : Int) (b : Int) rsl) by rw [HEQ.out, hg]; rfl)
            have hE : chkE s1 (a : Int) (b : Int) rsl = 0 := by rw [chkE, hg]; rfl
            rw [hE]
            clear hE hg HEQ
            go_wp2_with fail
            obtain ⟨y0, y1, y2, y3⟩ := set4 hr0 hr1 hr2 hr3 _ rfl
            have hne : ∀ j k, (Value.slice RA rsl.length rc').ownBlock = some k → (⟨w.heap.size, j, none⟩ : Addr).block ≠ k := fun j k hk => by
              have := (hor.out.lt k hk).1
              show w.heap.size ≠ k
              omega
            refine ret_bucket rfl rfl rfl rfl y0 y1 y2 y3 ⟨⟨fun x hx => ?_, fun h => ?_⟩, below4 _ _ _ _ HB5.out⟩
            · rw [HN.out] at hx
              injection hx with hx
              exact ⟨s1, a, b, rsl, _, rfl, hx, ((((HOR5.out.set (hne 0) _).set (hne 1) _).set (hne 2) _).set (hne 3) _).mono (by omega), hpos.out⟩
            · rw [HN.out] at h
              cases h
      · have hk' : (k : Int) > 0 := by omega
        by_cases h8 : rsl.length ≤ 8
        · have h8' : (rsl.length : Int) ≤ 8 := by omega
          go_wp2_with fail
          have hN3 : w.heap.size + 3 ≤ wr.heap.size := hrs.out.sz
          have e1 := heap_alloc2_old wr (.cells #[.string ⟨#[]⟩, .int .i64 0, .int .i64 0] 44) (.cells #[.pointer (some ⟨wr.heap.size, 1, none⟩), .pointer (some ⟨wr.heap.size, 2, none⟩)] 50)
          have e2 := heap_alloc2_new wr (.cells #[.string ⟨#[]⟩, .int .i64 0, .int .i64 0] 44) (.cells #[.pointer (some ⟨wr.heap.size, 1, none⟩), .pointer (some ⟨wr.heap.size, 2, none⟩)] 50)
          obtain ⟨tp, tk⟩ := tp2 e1 e2
          have hbA : Below wr.heap.size wr ((wr.alloc (.cells #[.string ⟨#[]⟩, .int .i64 0, .int .i64 0] 44)).alloc (.cells #[.pointer (some ⟨wr.heap.size, 1, none⟩), .pointer (some ⟨wr.heap.size, 2, none⟩)] 50)) := ((Below.refl _ wr).alloc (Nat.le_refl _) _).alloc (by simp) _
          refine (take_calls wr.heap.size (.slice CA cur.length cc) cur ⟨wr.heap.size, 0, none⟩ ⟨wr.heap.size + 1, 0, none⟩ [⟨wr.heap.size, 1, none⟩, ⟨wr.heap.size, 2, none⟩] 2 _ _ _ (HO.out.in.below hbA) (by omega) tp tk (by simp) (by simp) hbA.size).mono ?_
          rintro e w5 ⟨hs5, hn5⟩
          have hmain5 : Hid (∃ (v5 : Value) (s5 : ByteArray) (ok5 : Bool) (d o : Int), e = .returned (.tuple #[v5, .bool ok5]) ∧ w5.cell? ⟨wr.heap.size, 0, none⟩ = some (.string s5) ∧ w5.cell? ⟨wr.heap.size, 1, none⟩ = some (.int .i64 d) ∧ w5.cell? ⟨wr.heap.size, 2, none⟩ = some (.int .i64 o) ∧ Below wr.heap.size wr w5 ∧ wr.heap.size + 2 ≤ w5.heap.size ∧ ((ok5 = true ∧ ∃ (rest : List Nat), Pos ⟨s5, d, o⟩ ∧ OB w5 (wr.heap.size + 2) v5 rest ∧ rest.length ≤ cur.length ∧ decR cur = some (ruN ⟨s5, d, o⟩, rest)) ∨ (ok5 = false ∧ decR cur = none))) := by
            cases hd : takeR 2 cur with
            | none =>
              obtain ⟨v5, s5, vals, e5, hk5⟩ := hn5 hd
              exact ⟨v5, s5, false, _, _, e5, hk5.str, hk5.cells 0 (by simp), hk5.cells 1 (by simp), hbA.trans hk5.below, by have := hk5.sz; simp at this; omega, .inr ⟨rfl, take2_none hd⟩⟩
            | some p =>
              obtain ⟨⟨t5, ns5⟩, rest⟩ := p
              obtain ⟨d, o, rfl, hdr⟩ := take2_some hd
              obtain ⟨v5, s5, e5, ht5, ho5, hk5⟩ := hs5 t5 _ rest hd
              refine ⟨v5, s5, true, (d : Int), (o : Int), e5, hk5.str, hk5.cells 0 (by simp), hk5.cells 1 (by simp), hbA.trans hk5.below, by have := hk5.sz; simp at this; omega, .inl ⟨rfl, rest, ⟨by simp, by simp, ?_⟩, ho5.mono (by simp), takeR_short hd, ?_⟩⟩
              · rw [← sn_len, ht5]; exact take_size hd
              · rw [hdr, ← ht5]; rfl
          obtain ⟨v5, s5, ok5, d5, o5, rfl, j0, j1, j2, hb5, hsz5, hst5⟩ := hmain5.out
          have HST5 := Lib.hid hst5
          have HRS5 := Lib.hid (hrs.out.keep (hb5.mono hrs.out.sz))
          have HB5 := Lib.hid (hb.out.trans (hb5.mono (by omega)))
          have HOR5 := Lib.hid (hor.out.below hb5)
          have HLT := Lib.hid hor.out.lt
          clear hs5 hn5 hmain5 hst5 tp tk e1 e2 hbA k0 k1 k2 k3 kn hr0 hr1 hr2 hr3 f0 f1 f2 f3 hb5 HO
          have k3 := HRS5.out.c3
          go_wp2_with (refine wp_appR rfl (.tmp 40) (.tmp 42) rfl (w.heap.size + 3) w5.heap.size rsl ⟨s5, d5, o5⟩ (HOR5.out.alloc _) (heap_alloc_new w5 _) rfl rfl (by omega) (by simp; omega) ?_; intro v6 w6 hO6 hg6 hat6; have HB6 := Lib.hid (Below.grown ((Below.refl (w.heap.size + 3) w5).alloc (by omega) _) hg6 (by simp; omega) (fun k hk => (HLT.out k hk).1)); have HRS6 := Lib.hid (HRS5.out.keep HB6.out); have k3' := HRS6.out.c3; have z3' := HRS6.out.fz (w.heap.size + 1) 3 (by omega) (by omega); have kn' := HRS6.out.n; have zn' := HRS6.out.fz (w.heap.size + 2) 0 (by omega) (by omega); obtain ⟨A6, c6, rfl, hc6, hn6, hr6⟩ := hO6.rules; clear hc6 hn6 hr6)
          go_roundw
          case measure =>
            have h := ((HRS6.out.setR (.slice A6 (rsl.length + 1) c6)).setN ((k : Int) - 1)).n
            have h2 := hrs.out.n
            have e1 := mOf_at h
            have e2 := mOf_at h2
            refine Nat.lt_of_le_of_lt (Nat.le_of_eq e1) (Nat.lt_of_lt_of_le ?_ (Nat.le_of_eq e2.symm))
            omega
          case rel =>
            have hO6' : OR w6 (w.heap.size + 3) (.slice A6 (rsl.length + 1) c6) (rsl ++ [⟨s5, d5, o5⟩]) := by
              have := hO6
              rw [List.length_append] at this
              exact this
            have ne1 : ∀ i k, i ≤ 2 → (Value.slice A6 (rsl.length + 1) c6).ownBlock = some k → (⟨w.heap.size + i, 3, none⟩ : Addr).block ≠ k ∧ (⟨w.heap.size + i, 0, none⟩ : Addr).block ≠ k := fun i k hi hk => by
              have := (hO6'.lt k hk).1
              exact ⟨by show w.heap.size + i ≠ k; omega, by show w.heap.size + i ≠ k; omega⟩
            refine ⟨ok5, (k : Int) - 1, _, rsl ++ [⟨s5, d5, o5⟩], rfl, by rw [List.length_append]; simp; omega, Lib.hid ((HRS6.out.setR _).setN _), Lib.hid ((hO6'.set (fun k hk => (ne1 1 k (by omega) hk).1) _).set (fun k hk => (ne1 2 k (by omega) hk).2) _), Lib.hid (((HB5.out.trans (HB6.out.mono (by omega))).setCell (by show w.heap.size ≤ w.heap.size + 1; omega) _).setCell (by show w.heap.size ≤ w.heap.size + 2; omega) _), Lib.hid (fun hok r hr => ?_), Lib.hid ?_⟩
            · rcases HST5.out with ⟨_, rest, h1, _⟩ | ⟨h1, _⟩
              · rcases List.mem_append.1 hr with h | h
                · exact hpos.out r h
                · rw [List.mem_singleton.1 h]; exact h1
              · rw [h1] at hok; cases hok
            · rcases HST5.out with ⟨rfl, rest, h1, h2, h3, h4⟩ | ⟨rfl, h1⟩
              · refine .inl ⟨rfl, hs1, a, b, n0, k - 1, b1, rest, rfl, rfl, by omega, by rw [List.length_append]; simp; omega, g2, ?_, by omega, ?_, HDB.out⟩
                · have h5 : w6.ownsRow (wr.heap.size + 2) 5 1 v5 rest.length (rest.map bv) := by
                    refine (h2.alloc _).1.kept hg6 ?_
                    cases hv : v5.ownBlock with
                    | none => exact .inl rfl
                    | some q =>
                      refine .inr fun e => ?_
                      have l1 := (h2.lt q hv).1
                      have l2 := (HLT.out q e.symm).2
                      omega
                  have h6 : OB w6 (w.heap.size + 3) v5 rest := OB.mono ⟨h5, h2.2⟩ (by omega)
                  exact (h6.set (by show w.heap.size + 1 < w.heap.size + 3; omega) _).set (by show w.heap.size + 2 < w.heap.size + 3; omega) _
                · rw [HDR.out, show k = (k - 1) + 1 by omega, rules_some _ _ _ _ _ h4, List.map_append]
                  rfl
              · refine .inr ⟨rfl, ?_⟩
                have : decRs n0 b1 = none := by rw [HDR.out, show k = (k - 1) + 1 by omega, rules_none _ _ _ h1]
                unfold readB
                rw [HDB.out, this]
                split <;> rfl
        · have h8' : ¬ (rsl.length : Int) ≤ 8 := by omega
          have HN := Lib.hid (show readB okBuc bs = none by
            unfold readB
            rw [HDB.out, if_neg (by omega)]
            rfl)
          go_wp2_with fail
          obtain ⟨y0, y1, y2, y3⟩ := set4 hr0 hr1 hr2 hr3 _ rfl
          refine ret_bucket rfl rfl rfl rfl y0 y1 y2 y3 ⟨⟨fun x hx => ?_, fun _ => rfl⟩, below4 _ _ _ _ hb.out⟩
          rw [HN.out] at hx
          cases hx
    · have HN := Lib.hid h1
      have hr0 := hrs.out.r0
      have hr1 := hrs.out.r1
      have hr2 := hrs.out.r2
      have hr3 := hrs.out.r3
      have f0 := hrs.out.fz w.heap.size 0 (by omega) (by omega)
      have f1 := hrs.out.fz w.heap.size 1 (by omega) (by omega)
      have f2 := hrs.out.fz w.heap.size 2 (by omega) (by omega)
      have f3 := hrs.out.fz w.heap.size 3 (by omega) (by omega)
      clear h1 hst
      go_wp2_with fail
      obtain ⟨y0, y1, y2, y3⟩ := set4 hr0 hr1 hr2 hr3 _ rfl
      refine ret_bucket rfl rfl rfl rfl y0 y1 y2 y3 ⟨⟨fun x hx => ?_, fun _ => rfl⟩, below4 _ _ _ _ hb.out⟩
      rw [HN.out] at hx
      cases hx
end Go.Proofs.YtoddlefhlicfiaaGreatDoorR.RdrDev
