/- The walk of the drive's List: what it gives, for every memory that holds such a drive. No statement of the seat stands here. -/
import Derived.Test.YtoddlefhlicfiaaGreatDoorRChecked
import Derived.Test.YtoddlefhlicfiaaGreatDoorRShelf
import Derived.Tactics
import Derived.Tactics2
import Derived.StillTactics
import Derived.Laws.AppendOwn
import Derived.Laws.Runes
import Derived.Laws.CopyRow
import Derived.Laws.Shifts
import Derived.Laws.Rows
import Derived.Laws.BitsLemmas
import Derived.Laws.Tables
import Derived.Laws.NewBlocks
import Derived.Laws.Unary
import Derived.Laws.Strings
import Derived.Laws.NewFold
import Derived.Laws.ShiftsVarLaws
import Derived.Laws.Bits
import Derived.Laws.Alloc2
import Derived.Laws.Bits128
import Derived.Laws.Strings2
import Derived.Laws.Wrap64
import Derived.Laws.ShiftsVar
import Derived.Laws.Closers25
import Derived.Laws.RangeString
import Derived.Laws.Concat
import Derived.Laws.Cells
import Derived.Laws.NewDeep
import Derived.Laws.Pointers
import Derived.Laws.StructEq
import Derived.Laws.Closers25b
import Derived.Laws.StandIn
import Derived.Laws.Bits64b
import Derived.Laws.LoneSync
import Derived.Laws.ByValue
import Derived.Laws.MathBits
import Derived.Laws.Externs
import Derived.Laws.BitsAll
import Derived.Laws.BitsAllLaws
import Derived.Laws.Bits64
import Derived.Laws.OwnMore
import Derived.Laws.Build
import Derived.Laws.ResultCell
import Derived.Laws.Entries
import Derived.Laws.Append
import Derived.Laws.RangeAny
import Derived.Laws.World
import Derived.Laws.Strings3
import Derived.Laws.Sem
import Derived.Laws.Slices
import Derived.Laws.MakeOwn
import Derived.Laws.Small
import Derived.Laws.BytesString
import Derived.Scope
import Derived.FnLit
import Derived.LoopTactic
import Derived.LoopN
import Derived.Laws.IdiomRangeMap
import Derived.Maps.RangeRun
import Derived.WalkSpells
import Derived.Below
import Derived.Shelf.Sort.Plain
import Derived.Shelf.Slices.In.SortNone
import Derived.Shelf.Strings.Prefix
import Derived.Sort.OwnSorted
import Derived.Sort.KeysCollected
import Derived.WalkKit
import Derived.Test.YtoddlefhlicfiaaGreatDoorRXF
import Derived.Laws.AppendOwn
namespace Go.Proofs.YtoddlefhlicfiaaGreatDoorR.ListDev
open Go Go.RowKit Go.ChangeMaps Go.Sort Go.Shelf Go.Proofs.YtoddlefhlicfiaaGreatDoorR.X

def gone (p : MapEntry → Bool) (es : List MapEntry) (seen : Array Nat) : List (List UInt8) := (es.filter fun x => seen.contains x.born && p x).map keyL
theorem filter_other (p : MapEntry → Bool) (seen : Array Nat) (b : Nat) : ∀ (es : List MapEntry), b ∉ es.map (·.born) → (es.filter fun x => (seen.push b).contains x.born && p x) = es.filter fun x => seen.contains x.born && p x
  | [], _ => rfl
  | x :: l, h => by
    have hx : (x.born == b) = false := by
      cases hc : x.born == b with
      | false => rfl
      | true => exact absurd (List.mem_cons.2 (Or.inl (beq_iff_eq.1 hc).symm)) h
    have ih := filter_other p seen b l (fun e => h (List.mem_cons.2 (Or.inr e)))
    simp only [List.filter_cons, contains_push, hx, Bool.or_false] at ih ⊢
    rw [ih]
theorem gone_push (p : MapEntry → Bool) (seen : Array Nat) (e : MapEntry) (hs : seen.contains e.born = false) : ∀ (es : List MapEntry), (es.map (·.born)).Nodup → e ∈ es →
    (gone p es (seen.push e.born)).Perm (gone p es seen ++ if p e then [keyL e] else [])
  | x :: l, hn, he => by
    have hn' : x.born ∉ l.map (·.born) ∧ (l.map (·.born)).Nodup := List.nodup_cons.1 hn
    rcases List.mem_cons.1 he with rfl | h
    · have h1 := filter_other p seen e.born l hn'.1
      unfold gone
      rw [List.filter_cons, List.filter_cons, h1, hs, contains_push, hs]
      simp only [beq_self_eq_true, Bool.or_true, Bool.true_and, Bool.false_and, Bool.false_eq_true, if_false]
      cases p e with
      | true => simp only [if_true, List.map_cons]; exact (List.perm_append_singleton _ _).symm
      | false => simp
    · have hx : (x.born == e.born) = false := by
        cases hc : x.born == e.born with
        | false => rfl
        | true => exact absurd (by rw [beq_iff_eq.1 hc]; exact List.mem_map.2 ⟨e, h, rfl⟩) hn'.1
      have ih := gone_push p seen e hs l hn'.2 h
      unfold gone at ih ⊢
      rw [List.filter_cons, List.filter_cons, contains_push, hx, Bool.or_false]
      cases seen.contains x.born && p x with
      | true => simp only [if_true, List.map_cons, List.cons_append]; exact ih.cons _
      | false => exact ih
theorem gone_none (p : MapEntry → Bool) (es : List MapEntry) : gone p es #[] = [] := by
  unfold gone
  have : (es.filter fun x => (#[] : Array Nat).contains x.born && p x) = [] := by
    rw [List.filter_eq_nil_iff]
    intro x _
    simp
  rw [this]; rfl
theorem gone_all (p : MapEntry → Bool) (es : Array MapEntry) (seen : Array Nat) (h : (leftOf es seen).size = 0) : gone p es.toList seen = (es.toList.filter p).map keyL := by
  unfold gone
  congr 1
  refine List.filter_congr fun x hx => ?_
  have h2 : leftOf es seen = #[] := Array.eq_empty_of_size_eq_zero h
  unfold leftOf at h2
  rw [Array.filter_eq_empty_iff] at h2
  have h3 := h2 x (Array.mem_toList_iff.1 hx)
  cases hc : seen.contains x.born with
  | true => rfl
  | false => rw [hc] at h3; exact absurd rfl h3
theorem gone_len (p : MapEntry → Bool) (es : List MapEntry) (seen : Array Nat) : (gone p es seen).length ≤ es.length := by
  unfold gone
  rw [List.length_map]
  exact List.length_filter_le _ _
theorem setBlock_size (w : World) (b : Nat) (o : Obj) : (setBlock w b o).heap.size = w.heap.size := by simp [setBlock]
theorem setBlock_same (w : World) (b : Nat) (o : Obj) (h : b < w.heap.size) : (setBlock w b o).heap[b]? = some o := by simp [setBlock, h]
theorem setBlock_other (w : World) (b : Nat) (o : Obj) (k : Nat) (h : k ≠ b) : (setBlock w b o).heap[k]? = w.heap[k]? := by
  simp only [setBlock]
  rw [Array.getElem?_setIfInBounds_ne (by omega)]
theorem Below.setBlock {B : Nat} {a w : World} (h : RowKit.Below B a w) {b : Nat} (hb : B ≤ b) (o : Obj) : RowKit.Below B a (setBlock w b o) :=
  h.trans ⟨rfl, rfl, rfl, by rw [setBlock_size]; exact Nat.le_refl _, fun k hk => setBlock_other _ _ _ _ (by omega)⟩
theorem info9 : (Tryz.prog.info? 9).map (fun i => (i.zero, i.size, i.bytes)) = some (some (.string ⟨#[]⟩), 1, 16) := by kernel_rfl
theorem sorted_of_perm (es : List MapEntry) (pre : ByteArray) (ss : List (List UInt8)) (h : ss.Perm ((es.filter (keepB pre)).map keyL)) : sortedL es pre = ss.mergeSort fun x y => decide (x ≤ y) := (mergeSort_of_perm h).symm
set_option maxHeartbeats 4000000 in
set_option maxRecDepth 1000000 in
theorem list_spec : ListSpec Tryz.prog 125 160 9 := by
  intro b o pre w R hask hR
  obtain ⟨i0, hi, hz0, hz1, hz2⟩ := info_parts info9
  go_enter Tryz.func125, Tryz.ntmps125
  go_wp2_with fail
  refine hask.mono ?_
  rintro e w1 ⟨rfl, hRw⟩
  obtain ⟨bm, clock, es, hc, hb, hborn, hnd, hkeys, hsz⟩ := hR w1 hRw
  have hrg := run_range_map (P := Tryz.prog) w1 82 9 215 bm es clock Tryz.underlying82 hb
  go_wp2_with fail
  go_loopw [7] (fun v wr => ∃ (seen : Array Nat) (ss : List (List UInt8)), RowKit.Below w1.heap.size w1 wr ∧ wr.heap[w1.heap.size]? = some (.mapIter (some bm) clock seen clock) ∧ wr.ownsRow (w1.heap.size + 1) 9 1 v ss.length (ss.map encStr) ∧ ss.Perm (gone (keepB pre) es.toList seen) ∧ (ss = [] → v = .slice none 0 0))
    (fun _ wr => (leftOf es (wr.iterSeen w1.heap.size)).size)
  case atStart => exact ⟨#[], [], Below.alloc (Below.refl _ _) (Nat.le_refl _) _, heap_alloc_new _ _, World.ownsRow_nil _ _ _ _, by rw [gone_none], fun _ => rfl⟩
  case round =>
    obtain ⟨seen, ss, hB, hr, hown, hperm, hnn⟩ := hrel
    have hlt : bm < w1.heap.size := (Array.getElem?_eq_some_iff.1 hb).1
    have hb1 : wr.heap[bm]? = some (.map es clock) := by rw [hB.block bm hlt]; exact hb
    rcases run_next_at (P := Tryz.prog) wr 0 w1.heap.size bm clock clock seen es clock hr hb1 hborn (Nat.le_refl _) with ⟨h0, hrun⟩ | ⟨e, he, w2, hal, hrun⟩
    · have hnx : ∀ ty, (Instr.next (.pointer (some ⟨w1.heap.size, 0, none⟩)) false ty).run Tryz.prog wr = _ := fun _ => hrun
      rw [gone_all _ es seen h0] at hperm
      clear hrun hrg
      have hsort := sorted_of_perm es.toList pre ss hperm
      have hfin : ∀ bm' clock' (es' : Array MapEntry), w1.cell? ⟨b, o + 1, none⟩ = some (.map (some bm')) → w1.heap[bm']? = some (.map es' clock') → es' = es := by
        intro bm' clock' es' h1 h2
        rw [hc] at h1
        injection h1 with h1
        injection h1 with h1
        injection h1 with h1
        subst h1
        rw [hb] at h2
        injection h2 with h2
        injection h2 with h2 _
        exact h2.symm
      have hlen : ss.length ≤ 1000000 := by rw [hperm.length_eq, List.length_map]; have := List.length_filter_le (keepB pre) es.toList; simp at this ⊢; omega
      rcases hown.2 with ⟨hnil, hn0⟩ | ⟨g, cap, cur, hv, hbase, hbk, h1, h2, h3, h4⟩
      · subst hnil
        obtain rfl : ss = [] := List.length_eq_zero_iff.1 hn0
        go_wp2_with (refine (Any.slices_Sort_string_none Tryz.lays190 none 0 _).mono ?_; rintro e0 w0 ⟨rfl, rfl⟩)
        go_ret2
        refine ⟨w1, hRw, fun bm' clock' es' g1 g2 => ?_⟩
        rw [hfin _ _ _ g1 g2, hsort]
        exact ⟨.slice none 0 0, rfl, by simpa using World.ownsRow_nil w0 w1.heap.size 9 1, fun _ => rfl, hB⟩
      · subst hv
        have hH : Holds encStr wr g 0 ss.toArray := holds_of_block hbk (by simpa using h4)
        have hgl : g < wr.heap.size := (Array.getElem?_eq_some_iff.1 hbk).1
        have hsrt := Any.slices_Sort_string Tryz.lays190 g 0 cap ss wr hH hgl (by omega)
        go_wp2_with (refine hsrt.mono ?_; rintro e0 w0 ⟨rfl, nn, os, rfl⟩)
        go_ret2
        refine ⟨w1, hRw, fun bm' clock' es' g1 g2 => ?_⟩
        rw [hfin _ _ _ g1 g2, hsort]
        refine ⟨.slice (some ⟨g, 0, none⟩) ss.length cap, rfl, ?_, fun h0 => hnn (List.length_eq_zero_iff.1 (by have := congrArg List.length h0; simpa using this)), hB.grown (grownBy_sorted _) hB.size (fun j hj => by cases hj; omega)⟩
        have := ownsRow_sorted (os := os) (n := nn) (ss := ss) (ts := ss.mergeSort fun x y => decide (x ≤ y)) (by simp) (show w1.heap.size ≤ g by omega) hbk h1 h2 h3
        simpa using this
    · obtain ⟨s, hkey⟩ := hkeys e (mem_left he).1
      obtain ⟨l, rfl⟩ : ∃ l : List UInt8, s = ⟨l.toArray⟩ := ⟨s.data.toList, by cases s; simp⟩
      rw [hkey] at hrun
      have hnx : ∀ ty, (Instr.next (.pointer (some ⟨w1.heap.size, 0, none⟩)) false ty).run Tryz.prog wr = _ := fun _ => hrun
      have hB1 : RowKit.Below w1.heap.size w1 w2 := by rcases hal with rfl | rfl; exact hB; exact hB.drew
      have hr1 : w1.heap.size < w2.heap.size := by
        have := (Array.getElem?_eq_some_iff.1 hr).1
        rcases hal with rfl | rfl <;> exact this
      have hB2 : RowKit.Below w1.heap.size w1 (setBlock w2 w1.heap.size (.mapIter (some bm) clock (seen.push e.born) clock)) := Below.setBlock hB1 (Nat.le_refl _) _
      have hr2 := setBlock_same w2 w1.heap.size (.mapIter (some bm) clock (seen.push e.born) clock) hr1
      have hown1 : w2.ownsRow (w1.heap.size + 1) 9 1 u7 ss.length (ss.map encStr) := by rcases hal with rfl | rfl; exact hown; exact hown
      have hown2 : (setBlock w2 w1.heap.size (.mapIter (some bm) clock (seen.push e.born) clock)).ownsRow (w1.heap.size + 1) 9 1 u7 ss.length (ss.map encStr) := by
        refine ⟨hown1.1, hown1.2.imp id ?_⟩
        rintro ⟨g, cap, cur, h1, h2, h3, h4⟩
        exact ⟨g, cap, cur, h1, h2, by rw [setBlock_other _ _ _ _ (by omega)]; exact h3, h4⟩
      generalize setBlock w2 w1.heap.size (.mapIter (some bm) clock (seen.push e.born) clock) = w3 at hB2 hr2 hnx hrun hown2
      have hb3 : w3.heap[bm]? = some (.map es clock) := by rw [hB2.block bm hlt]; exact hb
      have hen := run_entry_at (P := Tryz.prog) w3 w1.heap.size bm clock seen es clock e hr2 hb3 (mem_left he).1 hnd
      rw [hkey] at hen
      have hlt3 : w1.heap.size < w3.heap.size := (Array.getElem?_eq_some_iff.1 hr2).1
      have hmeas : (leftOf es (wr.iterSeen w1.heap.size)).size = (leftOf es seen).size := by simp only [World.iterSeen, hr]
      have hpush := gone_push (keepB pre) seen e (mem_left he).2 es.toList hnd (mem_left he).1
      have hkl : keyL e = (ByteArray.mk l.toArray).data.toList := by simp only [keyL, hkey]
      have hlen : ss.length ≤ 1000000 := by rw [hperm.length_eq]; have := gone_len (keepB pre) es.toList seen; simp at this; omega
      have hshrink := left_shrinks es seen e he
      cases hk : keepB pre e with
      | false =>
        have hk1 : Lib.hasPrefix (ByteArray.mk l.toArray).data.toList pre.data.toList = false := by rw [← hkl]; exact hk
        rw [hk] at hpush
        clear hr hB hB1 hrun hal hr1 hown hown1 hrg hask hR
        go_wp2_with (refine (Any.strings_HasPrefix Tryz.lays99 _ pre _).mono ?_; rintro e0 w0 ⟨rfl, rfl⟩)
        refine ⟨⟨seen.push e.born, ss, hB2, hr2, hown2, by simpa using hperm.trans (by simpa using hpush.symm), hnn⟩, ?_⟩
        rw [hmeas]
        simp only [World.iterSeen, hr2]
        exact hshrink
      | true =>
        have hk1 : Lib.hasPrefix (ByteArray.mk l.toArray).data.toList pre.data.toList = true := by rw [← hkl]; exact hk
        rw [hk] at hpush
        clear hr hB hB1 hrun hal hr1 hown hown1 hrg hask hR
        go_wp2_with (first
          | (refine (Any.strings_HasPrefix Tryz.lays99 _ pre _).mono ?_; rintro e0 w0 ⟨rfl, rfl⟩)
          | (refine wpList_append_own _ rfl _ _ 57 rfl (w1.heap.size + 1) 9 i0 (.string ⟨#[]⟩) 1 16 Tryz.underlying57 hi hz0 hz1 hz2 rfl (by decide) _ _ _ rfl (hown2.alloc _) ⟨_, 0, none⟩ 1 1 [encStr l] rfl rfl (cell_one_new _ _ _) (by simp [Value.oneCell', encStr]) (by unfold maxLen; omega) (by omega) (by simp; omega) ?_; intro v' w5 hown' hg3 hnil3))
        have hne : some w1.heap.size ≠ u7.ownBlock := fun h => by have := (hown2.lt _ h.symm).1; omega
        have hr5 : w5.heap[w1.heap.size]? = some (.mapIter (some bm) clock (seen.push e.born) clock) := by
          rw [hg3.block _ (by simp; omega) hne, heap_alloc_old _ _ hlt3]; exact hr2
        refine ⟨⟨seen.push e.born, ss ++ [l], (Below.alloc hB2 (Nat.le_of_lt hlt3) _).grown hg3 (by simp; omega) (fun j hj => by have := (hown2.lt j hj).1; omega), hr5, by simpa using hown', ?_, fun h0 => by simp at h0⟩, ?_⟩
        · refine List.Perm.trans ?_ hpush.symm
          rw [hkl]
          exact hperm.append_right _
        · rw [hmeas]
          simp only [World.iterSeen, hr5]
          exact hshrink
end Go.Proofs.YtoddlefhlicfiaaGreatDoorR.ListDev
