/- The walk of the drive's Used: what it gives, for every memory that holds such a drive. No statement of the seat stands here. -/
import Derived.Test.YtoddlefhlicfiaaGreatDoorRChecked
import Derived.Tactics
import Derived.Tactics2
import Derived.StillTactics
import Derived.Laws.AppendOwn
import Derived.Laws.Runes
import Derived.Laws.CopyRow
import Derived.Laws.Shifts
import Derived.Laws.Rows
import Derived.Laws.BitsLemmas
import Derived.Laws.Tables
import Derived.Laws.NewBlocks
import Derived.Laws.Unary
import Derived.Laws.Strings
import Derived.Laws.NewFold
import Derived.Laws.ShiftsVarLaws
import Derived.Laws.Bits
import Derived.Laws.Alloc2
import Derived.Laws.Bits128
import Derived.Laws.Strings2
import Derived.Laws.Wrap64
import Derived.Laws.ShiftsVar
import Derived.Laws.Closers25
import Derived.Laws.RangeString
import Derived.Laws.Concat
import Derived.Laws.Cells
import Derived.Laws.NewDeep
import Derived.Laws.Pointers
import Derived.Laws.StructEq
import Derived.Laws.Closers25b
import Derived.Laws.StandIn
import Derived.Laws.Bits64b
import Derived.Laws.LoneSync
import Derived.Laws.ByValue
import Derived.Laws.MathBits
import Derived.Laws.Externs
import Derived.Laws.BitsAll
import Derived.Laws.BitsAllLaws
import Derived.Laws.Bits64
import Derived.Laws.OwnMore
import Derived.Laws.Build
import Derived.Laws.ResultCell
import Derived.Laws.Entries
import Derived.Laws.Append
import Derived.Laws.RangeAny
import Derived.Laws.World
import Derived.Laws.Strings3
import Derived.Laws.Sem
import Derived.Laws.Slices
import Derived.Laws.MakeOwn
import Derived.Laws.Small
import Derived.Laws.BytesString
import Derived.Scope
import Derived.FnLit
import Derived.LoopTactic
import Derived.LoopN
import Derived.Laws.IdiomRangeMap
import Derived.Maps.RangeRun
import Derived.WalkSpells
import Derived.Test.YtoddlefhlicfiaaGreatDoorRXF
import Derived.Below
namespace Go.Proofs.YtoddlefhlicfiaaGreatDoorR.UsedDev
open Go Go.RowKit Go.ChangeMaps Go.Proofs.YtoddlefhlicfiaaGreatDoorR.X

def wSum (f : MapEntry → Int) : List MapEntry → Array Nat → Int
  | [], _ => 0
  | x :: l, seen => (if seen.contains x.born then f x else 0) + wSum f l seen
theorem wSum_other (f : MapEntry → Int) (seen : Array Nat) (b : Nat) : ∀ (es : List MapEntry), b ∉ es.map (·.born) → wSum f es (seen.push b) = wSum f es seen
  | [], _ => rfl
  | x :: l, h => by
    have hx : (x.born == b) = false := by
      cases hc : x.born == b with
      | false => rfl
      | true => exact absurd (List.mem_cons.2 (Or.inl (beq_iff_eq.1 hc).symm)) h
    simp only [wSum, contains_push, hx, Bool.or_false, wSum_other f seen b l (fun e => h (List.mem_cons.2 (Or.inr e)))]
theorem wSum_push (f : MapEntry → Int) (seen : Array Nat) (e : MapEntry) (hs : seen.contains e.born = false) : ∀ (es : List MapEntry), (es.map (·.born)).Nodup → e ∈ es → wSum f es (seen.push e.born) = wSum f es seen + f e
  | x :: l, hn, he => by
    have hn' : x.born ∉ l.map (·.born) ∧ (l.map (·.born)).Nodup := List.nodup_cons.1 hn
    rcases List.mem_cons.1 he with rfl | h
    · simp only [wSum, contains_push, hs, beq_self_eq_true, Bool.or_true, if_true, Bool.false_eq_true, if_false, wSum_other f seen e.born l hn'.1]
      omega
    · have hx : (x.born == e.born) = false := by
        cases hc : x.born == e.born with
        | false => rfl
        | true => exact absurd (by rw [beq_iff_eq.1 hc]; exact List.mem_map.2 ⟨e, h, rfl⟩) hn'.1
      simp only [wSum, contains_push, hx, Bool.or_false, wSum_push f seen e hs l hn'.2 h]
      omega
theorem wSum_full (f : MapEntry → Int) (seen : Array Nat) : ∀ (es : List MapEntry), (∀ x ∈ es, seen.contains x.born = true) → wSum f es seen = (es.map f).sum
  | [], _ => rfl
  | x :: l, h => by
    simp only [wSum, h x (List.mem_cons.2 (Or.inl rfl)), if_true, List.map_cons, List.sum_cons, wSum_full f seen l (fun y hy => h y (List.mem_cons.2 (Or.inr hy)))]
theorem wSum_none (f : MapEntry → Int) : ∀ (es : List MapEntry), wSum f es #[] = 0
  | [] => rfl
  | x :: l => by
    have : (#[] : Array Nat).contains x.born = false := by simp
    simp only [wSum, this, Bool.false_eq_true, if_false, wSum_none f l]
    rfl
theorem wSum_all (f : MapEntry → Int) (es : Array MapEntry) (seen : Array Nat) (h : (leftOf es seen).size = 0) : wSum f es.toList seen = (es.toList.map f).sum := by
  refine wSum_full f seen es.toList (fun x hx => ?_)
  have h2 : leftOf es seen = #[] := Array.eq_empty_of_size_eq_zero h
  unfold leftOf at h2
  rw [Array.filter_eq_empty_iff] at h2
  have h3 := h2 x (Array.mem_toList_iff.1 hx)
  cases hc : seen.contains x.born with
  | true => rfl
  | false => rw [hc] at h3; exact absurd rfl h3

theorem wrap64_more (x y : Int) : wrap64 (wrap64 x + y) = wrap64 (x + y) := by
  unfold wrap64
  omega
theorem setBlock_size (w : World) (b : Nat) (o : Obj) : (setBlock w b o).heap.size = w.heap.size := by simp [setBlock]
theorem setBlock_same (w : World) (b : Nat) (o : Obj) (h : b < w.heap.size) : (setBlock w b o).heap[b]? = some o := by simp [setBlock, h]
theorem setBlock_other (w : World) (b : Nat) (o : Obj) (k : Nat) (h : k ≠ b) : (setBlock w b o).heap[k]? = w.heap[k]? := by
  simp only [setBlock]
  rw [Array.getElem?_setIfInBounds_ne (by omega)]
theorem Below.setBlock {B : Nat} {a w : World} (h : Below B a w) {b : Nat} (hb : B ≤ b) (o : Obj) : Below B a (setBlock w b o) :=
  h.trans ⟨rfl, rfl, rfl, by rw [setBlock_size]; exact Nat.le_refl _, fun k hk => setBlock_other _ _ _ _ (by omega)⟩
set_option maxRecDepth 1000000 in
theorem none_calls (b o bm : Nat) (w : World) (hl : w.cell? ⟨b, o + 1, none⟩ = some (.map (some bm))) : Calls Tryz.prog 174 #[.pointer (some ⟨b, o, none⟩)] w fun e w' => e = .returned (.bool false) ∧ w' = w := by
  have hq : ∀ (w : World) (r : Option Nat), (binOp .eql 82 (.map r) (.map none)).run Tryz.prog w = .ok (.bool r.isNone) w := fun w r => run_eql_map_nil w _ _ _ r Tryz.underlying82
  go_enter Tryz.func174, Tryz.ntmps174
  go_wp2
  go_ret
  exact ⟨rfl, rfl⟩
set_option maxRecDepth 1000000 in
theorem used_spec : UsedSpec Tryz.prog 164 := by
  intro b o bm es clock w hl hb hborn hnd hv
  have hrg := run_range_map (P := Tryz.prog) w 82 9 215 bm es clock Tryz.underlying82 hb
  go_enter Tryz.func164, Tryz.ntmps164
  go_wp2_with fail
  · refine (none_calls b o bm w hl).mono ?_
    rintro e w' ⟨rfl, rfl⟩
    go_wp2
    go_loopw [3] (fun s wr => ∃ (seen : Array Nat), Below w'.heap.size w' wr ∧ wr.heap[w'.heap.size]? = some (.mapIter (some bm) clock seen clock) ∧ s = .int .i64 (wrap64 (wSum (fun e => lenV e.val) es.toList seen))) (fun _ wr => (leftOf es (wr.iterSeen w'.heap.size)).size)
    case atStart => exact ⟨#[], Below.alloc (Below.refl _ _) (Nat.le_refl _) _, heap_alloc_new _ _, by rw [wSum_none, show wrap64 0 = 0 by decide +kernel]⟩
    case round =>
      obtain ⟨seen, hB, hr, rfl⟩ := hrel
      have hlt : bm < w'.heap.size := (Array.getElem?_eq_some_iff.1 hb).1
      have hb1 : wr.heap[bm]? = some (.map es clock) := by rw [hB.block bm hlt]; exact hb
      rcases run_next_at (P := Tryz.prog) wr 0 w'.heap.size bm clock clock seen es clock hr hb1 hborn (Nat.le_refl _) with ⟨h0, hrun⟩ | ⟨e, he, w1, hal, hrun⟩
      · have hnx : ∀ ty, (Instr.next (.pointer (some ⟨w'.heap.size, 0, none⟩)) false ty).run Tryz.prog wr = _ := fun _ => hrun
        go_wp2
        go_ret
        rw [wSum_all _ es seen h0]
        exact ⟨rfl, hB⟩
      · obtain ⟨a, l, c, d, hval⟩ := hv e (mem_left he).1
        rw [hval] at hrun
        have hnx : ∀ ty, (Instr.next (.pointer (some ⟨w'.heap.size, 0, none⟩)) false ty).run Tryz.prog wr = _ := fun _ => hrun
        have hB1 : Below w'.heap.size w' w1 := by rcases hal with rfl | rfl; exact hB; exact hB.drew
        have hr1 : w'.heap.size < w1.heap.size := by
          have := (Array.getElem?_eq_some_iff.1 hr).1
          rcases hal with rfl | rfl <;> exact this
        have hB2 : Below w'.heap.size w' (setBlock w1 w'.heap.size (.mapIter (some bm) clock (seen.push e.born) clock)) := Below.setBlock hB1 (Nat.le_refl _) _
        have hr2 := setBlock_same w1 w'.heap.size (.mapIter (some bm) clock (seen.push e.born) clock) hr1
        generalize setBlock w1 w'.heap.size (.mapIter (some bm) clock (seen.push e.born) clock) = w2 at hB2 hr2 hnx hrun
        have hb2 : w2.heap[bm]? = some (.map es clock) := by rw [hB2.block bm hlt]; exact hb
        have hen := run_entry_at (P := Tryz.prog) w2 w'.heap.size bm clock seen es clock e hr2 hb2 (mem_left he).1 hnd
        rw [hval] at hen
        have hlt2 : w'.heap.size < w2.heap.size := (Array.getElem?_eq_some_iff.1 hr2).1
        have hmeas : (leftOf es (wr.iterSeen w'.heap.size)).size = (leftOf es seen).size := by simp only [World.iterSeen, hr]
        have hpush := wSum_push (fun e => lenV e.val) seen e (mem_left he).2 es.toList hnd (mem_left he).1
        clear hr hB hB1 hrun hal hr1
        go_wp2
        have hr3 : (w2.alloc (Obj.cells #[Value.slice a l c, Value.bool d] 215)).heap[w'.heap.size]? = some (.mapIter (some bm) clock (seen.push e.born) clock) := by rw [heap_alloc_old _ _ hlt2]; exact hr2
        refine ⟨⟨seen.push e.born, Below.alloc hB2 (Nat.le_of_lt hlt2) _, hr3, ?_⟩, ?_⟩
        · rw [hpush, hval]
          have e2 : lenV (.agg #[.slice a l c, .bool d]) = (l : Int) := rfl
          rw [e2]
          rw [wrap64_more]
        · rw [hmeas]
          simp only [World.iterSeen, hr3]
          exact left_shrinks es seen e he
end Go.Proofs.YtoddlefhlicfiaaGreatDoorR.UsedDev
